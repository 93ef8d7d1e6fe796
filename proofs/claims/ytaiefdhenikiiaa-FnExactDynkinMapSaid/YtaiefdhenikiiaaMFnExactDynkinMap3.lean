/- Texts that the proof of FnExactDynkinMap needs, part 3. No condition. -/
import Derived.Test.YtaiefdhenikiiaaMFnExactDynkinMap2
import Derived.Laws.StructEq
namespace Go.Proofs.Ytaiefdhenikiiaa
abbrev tT:Bool:=true
abbrev fF:Bool:=false
end Go.Proofs.Ytaiefdhenikiiaa
namespace Go.Proofs.Ytaiefdhenikiiaa
theorem aK {p:Prop} (h:p):Go.Proofs.YtaiefdhenikiiaaW.PrintWords.Aside0 p:=Go.Proofs.YtaiefdhenikiiaaW.PrintWords.Aside0.mk h
end Go.Proofs.Ytaiefdhenikiiaa
namespace Go.Proofs.Ytaiefdhenikiiaa.Base
open Go.RowKit Go.Proofs.YtaiefdhenikiiaaW.PrintWords Go.Proofs.YtaiefdhenikiiaaW.PrintLast Go.Proofs.YtaiefdhenikiiaaW.PrintMore
attribute [local go_sem] max2_int qo1_ max_two min_two max_three min_three max_four min_four Go.Proofs.YtaiefdhenikiiaaZ.qx_   -- for this text's walks alone
set_option linter.unusedVariables false
set_option linter.unusedSimpArgs false
def errW:Option Int→Value
 | none=>.nilIface
 | some c=>.iface 0 (.int .i64 c)
theorem qo_:errW none=.nilIface:=rfl
theorem qn_ (c:Int):errW (some c)=.iface 0 (.int .i64 c):=rfl
theorem info9:(Try.prog.info? 9).map (fun i=>(i.zero,i.size,i.bytes))=some (some (.string ⟨#[]⟩),1,16):=by kernel_rfl
theorem info79:(Try.prog.info? 79).map (fun i=>(i.zero,i.size,i.bytes))=some (some (.agg #[(.string ⟨#[]⟩),(.int .i64 0),(.int .i64 0)]),3,32):=by kernel_rfl
structure S73 where
 f0:Int
 f1:Int
def z73:S73:=⟨(0:Int),(0:Int)⟩
def k73:Kd S73:=Kd.iso (Kd.pair (Kd.int .i64) (Kd.int .i64)) (fun x:S73=>(x.f0,x.f1))
theorem k73_open {w:World} {x:S73} {cs:List Value} (h:k73.K w x cs):cs=[.int .i64 x.f0,.int .i64 x.f1]:=by
 obtain ⟨_,_,rfl,rfl,rfl⟩:=h
 exact rfl
structure S75 where
 f0:ByteArray
 f1:S73
def z75:S75:=⟨(⟨#[]⟩:ByteArray),z73⟩
def k75:Kd S75:=Kd.iso (Kd.pair Kd.string k73) (fun x:S75=>(x.f0,x.f1))
theorem k75_open {w:World} {x:S75} {cs:List Value} (h:k75.K w x cs):cs=[.string x.f0,.int .i64 x.f1.f0,.int .i64 x.f1.f1]:=by
 obtain ⟨_,_,rfl,rfl,s1⟩:=h
 obtain rfl:=k73_open s1
 exact rfl
def rd_T75 (xs:List S75) (i:Int):S75:=xs.getD i.toNat z75
theorem at_T75 {w:World} {A:Option Addr} {n:Nat} {xs:List S75} (h:Kd.C k75 w A n xs) (i:Int) (h0:0≤i) (h1:i < n):∃ ad ,A=some ad∧w.cell? (ad.add (i.toNat * 3))=some (.string (rd_T75 xs i).f0)∧w.cell? ⟨(ad.add (i.toNat * 3)).block,(ad.add (i.toNat * 3)).off+1,none⟩=some (.int .i64 (rd_T75 xs i).f1.f0)∧w.cell? ⟨(ad.add (i.toNat * 3)).block,(ad.add (i.toNat * 3)).off+2,none⟩=some (.int .i64 (rd_T75 xs i).f1.f1):=by
 obtain ⟨ad,c,e,_,hK,hc0⟩:=Kd.C_get h z75 i h0 h1
 have hc:∀ j u,c[j]?=some u→w.cell? (ad.add (i.toNat * 3+j))=some u:=hc0
 obtain rfl:=k75_open hK
 exact ⟨ad,e,hc 0 _ rfl,by rw [← add_field _ _ 1 (by omega)];exact hc 1 _ rfl,by rw [← add_field _ _ 2 (by omega)];exact hc 2 _ rfl⟩
structure S77 where
 f0:Int
 f1:Int
def z77:S77:=⟨(0:Int),(0:Int)⟩
def k77:Kd S77:=Kd.iso (Kd.pair (Kd.int .i64) (Kd.int .i64)) (fun x:S77=>(x.f0,x.f1))
theorem k77_open {w:World} {x:S77} {cs:List Value} (h:k77.K w x cs):cs=[.int .i64 x.f0,.int .i64 x.f1]:=by
 obtain ⟨_,_,rfl,rfl,rfl⟩:=h
 exact rfl
theorem k77_openM {w:World} {base:Nat} {ok:Nat→Prop} {x:S77} {cs:List Value} (h:k77.M w base ok x cs):cs=[.int .i64 x.f0,.int .i64 x.f1]:=by
 obtain ⟨_,_,rfl,rfl,rfl⟩:=h
 exact rfl
theorem k77_mkM (w:World) (base:Nat) (ok:Nat→Prop) (x:S77) :k77.M w base ok x [.int .i64 x.f0,.int .i64 x.f1]:=⟨[.int .i64 x.f0],[.int .i64 x.f1],rfl,rfl,rfl⟩
structure S79 where
 f0:ByteArray
 f1:S77
def z79:S79:=⟨(⟨#[]⟩:ByteArray),z77⟩
def k79:Kd S79:=Kd.iso (Kd.pair Kd.string k77) (fun x:S79=>(x.f0,x.f1))
theorem k79_open {w:World} {x:S79} {cs:List Value} (h:k79.K w x cs):cs=[.string x.f0,.int .i64 x.f1.f0,.int .i64 x.f1.f1]:=by
 obtain ⟨_,_,rfl,rfl,s1⟩:=h
 obtain rfl:=k77_open s1
 exact rfl
theorem k79_openM {w:World} {base:Nat} {ok:Nat→Prop} {x:S79} {cs:List Value} (h:k79.M w base ok x cs):cs=[.string x.f0,.int .i64 x.f1.f0,.int .i64 x.f1.f1]:=by
 obtain ⟨_,_,rfl,rfl,s1⟩:=h
 obtain rfl:=k77_openM s1
 exact rfl
theorem k79_mkM (w:World) (base:Nat) (ok:Nat→Prop) (x:S79) :k79.M w base ok x [.string x.f0,.int .i64 x.f1.f0,.int .i64 x.f1.f1]:=⟨[.string x.f0],[.int .i64 x.f1.f0,.int .i64 x.f1.f1],rfl,rfl,(k77_mkM w base ok x.f1 )⟩
def rd_T79 (xs:List S79) (i:Int):S79:=xs.getD i.toNat z79
theorem at_T79 {w:World} {A:Option Addr} {n:Nat} {xs:List S79} (h:Kd.C k79 w A n xs) (i:Int) (h0:0≤i) (h1:i < n):∃ ad ,A=some ad∧w.cell? (ad.add (i.toNat * 3))=some (.string (rd_T79 xs i).f0)∧w.cell? ⟨(ad.add (i.toNat * 3)).block,(ad.add (i.toNat * 3)).off+1,none⟩=some (.int .i64 (rd_T79 xs i).f1.f0)∧w.cell? ⟨(ad.add (i.toNat * 3)).block,(ad.add (i.toNat * 3)).off+2,none⟩=some (.int .i64 (rd_T79 xs i).f1.f1):=by
 obtain ⟨ad,c,e,_,hK,hc0⟩:=Kd.C_get h z79 i h0 h1
 have hc:∀ j u,c[j]?=some u→w.cell? (ad.add (i.toNat * 3+j))=some u:=hc0
 obtain rfl:=k79_open hK
 exact ⟨ad,e,hc 0 _ rfl,by rw [← add_field _ _ 1 (by omega)];exact hc 1 _ rfl,by rw [← add_field _ _ 2 (by omega)];exact hc 2 _ rfl⟩
structure S38 where
 f0:Int
 f1:Int
 f2:(List S79)
end Go.Proofs.Ytaiefdhenikiiaa.Base
namespace Go.Proofs.Ytaiefdhenikiiaa.Base
open Go.RowKit Go.Proofs.YtaiefdhenikiiaaW.PrintWords Go.Proofs.YtaiefdhenikiiaaW.PrintLast Go.Proofs.YtaiefdhenikiiaaW.PrintMore
attribute [local go_sem] max2_int qo1_ max_two min_two max_three min_three max_four min_four Go.Proofs.YtaiefdhenikiiaaZ.qx_   -- for this text's walks alone
set_option linter.unusedVariables false
set_option linter.unusedSimpArgs false
def qx1_.f (a0:Int) (a1:Int) (a2:Int):Option (Bool):=if a0 ≥ a1 then (some (decide (a0≤a2))) else (some false)
set_option maxHeartbeats 8000000 in
set_option maxRecDepth 100000 in
theorem qx1_.calls (a0:Int) (a1:Int) (a2:Int) (r:Bool) (w:World) (h:qx1_.f a0 a1 a2=some r) :
  Calls Try.prog 111 #[.int .i64 a0,.int .i64 a1,.int .i64 a2] w fun e w'=>e=.returned (.bool r)∧Drawn0 w w':=by
 have H:(if a0 ≥ a1 then (some (decide (a0≤a2))) else (some false))=some r:=h
 clear h
 by_cases c4:a0 ≥ a1
 ·rw [if_pos c4] at H
  have c4b0:decide (a1≤a0)=true:=decide_eq_true c4
  clear c4
  obtain rfl:=Option.some.inj H
  go_enter Try.func111,Try.ntmps111
  go_wp2
  go_ret
  exact ⟨by first|rfl|(simp;done)|(simp [*];done)|(simp [Go.Proofs.YtaiefdhenikiiaaZ.bne_nil];done),by repeat (first|exact Drawn0.refl _|apply Drawn0.step)⟩
 ·rw [if_neg c4] at H
  have c4b0:decide (a1≤a0)=false:=decide_eq_false c4
  clear c4
  obtain rfl:=Option.some.inj H
  go_enter Try.func111,Try.ntmps111
  go_wp2
  go_ret
  exact ⟨by first|rfl|(simp;done)|(simp [*];done)|(simp [Go.Proofs.YtaiefdhenikiiaaZ.bne_nil];done),by repeat (first|exact Drawn0.refl _|apply Drawn0.step)⟩
end Go.Proofs.Ytaiefdhenikiiaa.Base
namespace Go.Proofs.Ytaiefdhenikiiaa.Base
open Go.RowKit Go.Proofs.YtaiefdhenikiiaaW.PrintWords Go.Proofs.YtaiefdhenikiiaaW.PrintLast Go.Proofs.YtaiefdhenikiiaaW.PrintMore
attribute [local go_sem] max2_int qo1_ max_two min_two max_three min_three max_four min_four Go.Proofs.YtaiefdhenikiiaaZ.qx_   -- for this text's walks alone
set_option linter.unusedVariables false
set_option linter.unusedSimpArgs false
def qb3_.f (a0:Int) (a1:Int):Option (Bool):=(qx1_.f a0 (wrap64 (-a1)) a1).bind fun t140=>(some t140)
set_option maxHeartbeats 8000000 in
set_option maxRecDepth 100000 in
theorem qb3_.calls (a0:Int) (a1:Int) (r:Bool) (w:World) (h:qb3_.f a0 a1=some r) :
  Calls Try.prog 214 #[.int .i64 a0,.int .i64 a1] w fun e w'=>e=.returned (.bool r)∧Drawn0 w w':=by
 have H:((qx1_.f a0 (wrap64 (-a1)) a1).bind fun t140=>(some t140))=some r:=h
 clear h
 replace H:=Option.bind_eq_some_iff.mp H
 obtain ⟨t140,A30,H⟩:=H
 replace H:(some t140)=some r:=H
 have A3:=aK A30
 clear A30
 obtain rfl:=Option.some.inj H
 go_enter Try.func214,Try.ntmps214
 go_wp2_with (first|((with_reducible refine qa1_ (f:=111) rfl ?_);refine goesL_ (some 9) rfl rfl Try.func111 (by kernel_rfl) rfl #[.int .i64 a0,.int .i64 (wrap64 (-a1)),.int .i64 a1] rfl (by (try simp only [List.map_toArray,List.map_cons,List.map_nil]);first|done|rfl|(simp only [List.length_drop,List.length_take];rfl)) ?_;(with_reducible refine (qx1_.calls a0 (wrap64 (-a1)) a1 t140 _ A3.out).mono ?_);rintro e w' ⟨rfl,⟨nd,rfl⟩⟩;refine ⟨_,rfl,?_⟩))
 go_ret
 exact ⟨by first|rfl|(simp;done)|(simp [*];done)|(simp [Go.Proofs.YtaiefdhenikiiaaZ.bne_nil];done),by repeat (first|exact Drawn0.refl _|apply Drawn0.step)⟩
end Go.Proofs.Ytaiefdhenikiiaa.Base
namespace Go.Proofs.Ytaiefdhenikiiaa.Base
open Go.RowKit Go.Proofs.YtaiefdhenikiiaaW.PrintWords Go.Proofs.YtaiefdhenikiiaaW.PrintLast Go.Proofs.YtaiefdhenikiiaaW.PrintMore
attribute [local go_sem] max2_int qo1_ max_two min_two max_three min_three max_four min_four Go.Proofs.YtaiefdhenikiiaaZ.qx_   -- for this text's walks alone
set_option linter.unusedVariables false
set_option linter.unusedSimpArgs false
def qx2_.f (a0:Int):Option (Int):=some (mx a0 (wrap64 (-a0)))
set_option maxHeartbeats 8000000 in
set_option maxRecDepth 100000 in
theorem qx2_.calls (a0:Int) (r:Int) (w:World) (h:qx2_.f a0=some r) :
  Calls Try.prog 228 #[.int .i64 a0] w fun e w'=>e=.returned (.int .i64 r)∧Below w.heap.size w w':=by
 have HB:=aK (Below.refl w.heap.size w)
 have H:(some (mx a0 (wrap64 (-a0))))=some r:=h
 clear h
 obtain ⟨ji2,hji2⟩:∃ j_:Int,(mx a0 (wrap64 (-a0)))=j_:=⟨_,rfl⟩
 replace H:(some ji2)=some r:=by first|(rw [hji2] at H;exact H)|(simp only [hji2] at H ⊢;exact H)
 have hji2_:(if a0 < (wrap64 (-a0)) then (wrap64 (-a0)) else a0)=ji2:=hji2
 obtain rfl:=Option.some.inj H
 go_enter Try.func228,Try.ntmps228
 go_wp2
 go_ret
 exact ⟨by first|rfl|(simp [qo_,qn_] <;> rfl)|(simp only [← hji2];first|rfl|(simp [qo_,qn_] <;> rfl))|(simp [*,qo_,qn_] <;> rfl),by repeat (first|(with_reducible first|exact HB.out|apply qb_|apply qa_|apply qc_)|exact HB.out)⟩
end Go.Proofs.Ytaiefdhenikiiaa.Base
namespace Go.Proofs.Ytaiefdhenikiiaa.Base
open Go.RowKit Go.Proofs.YtaiefdhenikiiaaW.PrintWords Go.Proofs.YtaiefdhenikiiaaW.PrintLast Go.Proofs.YtaiefdhenikiiaaW.PrintMore
attribute [local go_sem] max2_int qo1_ max_two min_two max_three min_three max_four min_four Go.Proofs.YtaiefdhenikiiaaZ.qx_   -- for this text's walks alone
set_option linter.unusedVariables false
set_option linter.unusedSimpArgs false
def qf1_.l0:Nat→Int→Int→Option (Int)
 | 0,_,_=>none
 | k+1,x0,x1=>if x1=0 then (some x0) else (qf1_.l0 k x1 (Int.tmod x0 x1))
def qf1_.f (k:Nat) (a0:Int) (a1:Int):Option (Int):=(qx2_.f a0).bind fun t141=>((qx2_.f a1).bind fun t142=>(qf1_.l0 k t141 t142))
theorem qf1_.mono_l:∀ k,(∀ y0 y1,LeO (qf1_.l0 k y0 y1) (qf1_.l0 (k+1) y0 y1))
 | 0=>fun _ _ r h=>by simp [qf1_.l0] at h
 | k+1=>by
  have ih0:=qf1_.mono_l k
  ·intro y0 y1
   unfold qf1_.l0
   repeat' first
   | (with_reducible exact ih0 _ _)
   | (with_reducible exact LeO.refl _)
   | (with_reducible exact LeO.none _)
   | (with_reducible refine LeO.ite ?_ ?_)
   | (with_reducible refine LeO.bind ?_ (fun _=>?_))
   | exact ih0 _ _
   | exact LeO.none _
   | refine LeO.ite ?_ ?_
   | refine LeO.bind ?_ (fun _=>?_)
theorem qf1_.mono:∀ a0 a1 k,LeO (qf1_.f k a0 a1) (qf1_.f (k+1) a0 a1):=by
 intro a0 a1 k
 have ih0:=qf1_.mono_l k
 unfold qf1_.f
 repeat' first
   | (with_reducible exact ih0 _ _)
   | (with_reducible exact LeO.refl _)
   | (with_reducible exact LeO.none _)
   | (with_reducible refine LeO.ite ?_ ?_)
   | (with_reducible refine LeO.bind ?_ (fun _=>?_))
   | exact ih0 _ _
   | exact LeO.none _
   | refine LeO.ite ?_ ?_
   | refine LeO.bind ?_ (fun _=>?_)
set_option maxHeartbeats 8000000 in
set_option maxRecDepth 100000 in
theorem qf1_.calls (k:Nat) (a0:Int) (a1:Int) (r:Int) (w:World) (h:qf1_.f k a0 a1=some r) :
  Calls Try.prog 217 #[.int .i64 a0,.int .i64 a1] w fun e w'=>e=.returned (.int .i64 r)∧Below w.heap.size w w':=by
 have HB:=aK (Below.refl w.heap.size w)
 have H:((qx2_.f a0).bind fun t141=>((qx2_.f a1).bind fun t142=>(qf1_.l0 k t141 t142)))=some r:=h
 clear h
 replace H:=Option.bind_eq_some_iff.mp H
 obtain ⟨t141,A30,H⟩:=H
 replace H:((qx2_.f a1).bind fun t142=>(qf1_.l0 k t141 t142))=some r:=H
 have A3:=aK A30
 clear A30
 replace H:=Option.bind_eq_some_iff.mp H
 obtain ⟨t142,A40,H⟩:=H
 replace H:(qf1_.l0 k t141 t142)=some r:=H
 have A4:=aK A40
 clear A40
 have H':=aK H
 clear H
 go_enter Try.func217,Try.ntmps217
 go_wp2_with (first|(go_at_call 228;(with_reducible refine (qx2_.calls a0 t141 _ A3.out).mono ?_);rintro e w5 ⟨rfl,hb⟩;have n0_:=aK (qj_ (by repeat (first|(with_reducible first|exact HB.out|apply qb_|apply qa_|apply qc_)|exact HB.out)) hb);clear HB;have HB:=n0_;clear n0_;(try clear hb);(try clear hb2);(try clear hk);(try clear hi))|(go_at_call 228;(with_reducible refine (qx2_.calls a1 t142 _ A4.out).mono ?_);rintro e w6 ⟨rfl,hb⟩;have n0_:=aK (qj_ (by repeat (first|(with_reducible first|exact HB.out|apply qb_|apply qa_|apply qc_)|exact HB.out)) hb);clear HB;have HB:=n0_;clear n0_;(try clear hb);(try clear hb2);(try clear hk);(try clear hi)))
 repeat (go_quiet (first|(go_at_call 228;(with_reducible refine (qx2_.calls a0 t141 _ A3.out).mono ?_);rintro e w5 ⟨rfl,hb⟩;have n0_:=aK (qj_ (by repeat (first|(with_reducible first|exact HB.out|apply qb_|apply qa_|apply qc_)|exact HB.out)) hb);clear HB;have HB:=n0_;clear n0_;(try clear hb);(try clear hb2);(try clear hk);(try clear hi))|(go_at_call 228;(with_reducible refine (qx2_.calls a1 t142 _ A4.out).mono ?_);rintro e w6 ⟨rfl,hb⟩;have n0_:=aK (qj_ (by repeat (first|(with_reducible first|exact HB.out|apply qb_|apply qa_|apply qc_)|exact HB.out)) hb);clear HB;have HB:=n0_;clear n0_;(try clear hb);(try clear hb2);(try clear hk);(try clear hi)));try go_wp2_with (first|(go_at_call 228;(with_reducible refine (qx2_.calls a0 t141 _ A3.out).mono ?_);rintro e w5 ⟨rfl,hb⟩;have n0_:=aK (qj_ (by repeat (first|(with_reducible first|exact HB.out|apply qb_|apply qa_|apply qc_)|exact HB.out)) hb);clear HB;have HB:=n0_;clear n0_;(try clear hb);(try clear hb2);(try clear hk);(try clear hi))|(go_at_call 228;(with_reducible refine (qx2_.calls a1 t142 _ A4.out).mono ?_);rintro e w6 ⟨rfl,hb⟩;have n0_:=aK (qj_ (by repeat (first|(with_reducible first|exact HB.out|apply qb_|apply qa_|apply qc_)|exact HB.out)) hb);clear HB;have HB:=n0_;clear n0_;(try clear hb);(try clear hb2);(try clear hk);(try clear hi))))
 go_loopg [0,1] k (fun kq v0 v1 w'=>∃ (x0_1:Int) (x1_1:Int),v0=.int .i64 x0_1∧v1=.int .i64 x1_1∧Aside0 (qf1_.l0 kq x0_1 x1_1=some r)∧Aside0 (kq≤k)∧Aside0 (Below w.heap.size w w'))
 case atStart=>exact ⟨(t141),(t142),(by first|rfl|(simp;done)|(simp [*];done)),(by first|rfl|(simp;done)|(simp [*];done)),H',⟨Nat.le_refl _⟩,⟨by repeat (first|(with_reducible first|exact HB.out|apply qb_|apply qa_|apply qc_)|exact HB.out)⟩⟩
 case round =>
  clear H'
  try clear c2
  try clear p2
  obtain ⟨x0_1,x1_1,rfl,rfl,HA,HK1,HB⟩:=hrel
  cases gk with
  | zero=>exact absurd HA.out (by simp [qf1_.l0])
  | succ k1 =>
   have H:=HA.out
   clear HA
   simp only [qf1_.l0] at H
   by_cases c7:x1_1=0
   ·rw [if_pos c7] at H
    have c7b0:(x1_1 == 0)=true:=beq_iff_eq.mpr c7
    have c7b1:(x1_1 != 0)=false:=bne_eq_false_iff_eq.mpr c7
    clear c7
    obtain rfl:=Option.some.inj H
    go_wp2
    repeat (go_quiet (fail);try go_wp2)
    go_ret
    exact ⟨by first|rfl|(simp [qo_,qn_] <;> rfl)|(simp [*,qo_,qn_] <;> rfl),by repeat (first|(with_reducible first|exact HB.out|apply qb_|apply qa_|apply qc_)|exact HB.out)⟩
   ·rw [if_neg c7] at H
    have c7b0:(x1_1 == 0)=false:=beq_eq_false_iff_ne.mpr c7
    have c7b1:(x1_1 != 0)=true:=bne_iff_ne.mpr c7
    have H':=aK H
    clear H
    go_wp2
    repeat (go_quiet (fail);try go_wp2)
    go_roundg k1
    case measure=>have:=HK1.out;omega
    case rel=>exact ⟨(x1_1),(Int.tmod x0_1 x1_1),(by first|rfl|(simp;done)|(simp [*];done)),(by first|rfl|(simp;done)|(simp [*];done)),H',⟨by have:=HK1.out;omega⟩,⟨by repeat (first|(with_reducible first|exact HB.out|apply qb_|apply qa_|apply qc_)|exact HB.out)⟩⟩
end Go.Proofs.Ytaiefdhenikiiaa.Base
namespace Go.Proofs.Ytaiefdhenikiiaa.Base
open Go.RowKit Go.Proofs.YtaiefdhenikiiaaW.PrintWords Go.Proofs.YtaiefdhenikiiaaW.PrintLast Go.Proofs.YtaiefdhenikiiaaW.PrintMore
attribute [local go_sem] max2_int qo1_ max_two min_two max_three min_three max_four min_four Go.Proofs.YtaiefdhenikiiaaZ.qx_   -- for this text's walks alone
set_option linter.unusedVariables false
set_option linter.unusedSimpArgs false
def qe1_.f (k:Nat) (a0_0:Int) (a0_1:Int):Option (Bool):=(qx1_.f a0_1 1 1000000000).bind fun t144=>(if t144=true then ((qb3_.f a0_0 1000000000).bind fun t145=>(if t145=true then ((qf1_.f k a0_0 a0_1).bind fun t146=>(some (t146 == 1))) else (some false))) else (some false))
theorem qe1_.mono:∀ a0 a1 k,LeO (qe1_.f k a0 a1) (qe1_.f (k+1) a0 a1):=by
 intro a0 a1 k
 unfold qe1_.f
 repeat' first
   | (with_reducible exact qf1_.mono _ _ _)
   | (with_reducible exact LeO.refl _)
   | (with_reducible exact LeO.none _)
   | (with_reducible refine LeO.ite ?_ ?_)
   | (with_reducible refine LeO.bind ?_ (fun _=>?_))
   | exact qf1_.mono _ _ _
   | exact LeO.none _
   | refine LeO.ite ?_ ?_
   | refine LeO.bind ?_ (fun _=>?_)
set_option maxHeartbeats 8000000 in
set_option maxRecDepth 100000 in
theorem qe1_.calls (k:Nat) (a0_0:Int) (a0_1:Int) (r:Bool) (w:World) (h:qe1_.f k a0_0 a0_1=some r) :
  Calls Try.prog 206 #[.agg #[.int .i64 a0_0,.int .i64 a0_1]] w fun e w'=>e=.returned (.bool r)∧Below w.heap.size w w':=by
 have hu77:=Try.underlying77
 have HB:=aK (Below.refl w.heap.size w)
 have H:((qx1_.f a0_1 1 1000000000).bind fun t144=>(if t144=true then ((qb3_.f a0_0 1000000000).bind fun t145=>(if t145=true then ((qf1_.f k a0_0 a0_1).bind fun t146=>(some (t146 == 1))) else (some false))) else (some false)))=some r:=h
 clear h
 replace H:=Option.bind_eq_some_iff.mp H
 obtain ⟨t144,A20,H⟩:=H
 replace H:(if t144=true then ((qb3_.f a0_0 1000000000).bind fun t145=>(if t145=true then ((qf1_.f k a0_0 a0_1).bind fun t146=>(some (t146 == 1))) else (some false))) else (some false))=some r:=H
 have A2:=aK A20
 clear A20
 by_cases c3:t144=true
 ·subst c3
  have H1:((qb3_.f a0_0 1000000000).bind fun t145=>(if t145=true then ((qf1_.f k a0_0 a0_1).bind fun t146=>(some (t146 == 1))) else (some false)))=some r:=by rw [if_pos rfl] at H;exact H
  clear H
  have H:=H1
  clear H1
  replace H:=Option.bind_eq_some_iff.mp H
  obtain ⟨t145,A40,H⟩:=H
  replace H:(if t145=true then ((qf1_.f k a0_0 a0_1).bind fun t146=>(some (t146 == 1))) else (some false))=some r:=H
  have A4:=aK A40
  clear A40
  by_cases c5:t145=true
  ·subst c5
   have H1:((qf1_.f k a0_0 a0_1).bind fun t146=>(some (t146 == 1)))=some r:=by rw [if_pos rfl] at H;exact H
   clear H
   have H:=H1
   clear H1
   replace H:=Option.bind_eq_some_iff.mp H
   obtain ⟨t146,A60,H⟩:=H
   replace H:(some (t146 == 1))=some r:=H
   have A6:=aK A60
   clear A60
   obtain rfl:=Option.some.inj H
   go_enter Try.func206,Try.ntmps206
   go_wp2_with (first|((with_reducible refine qu_ (N:=1) rfl ?_);refine qr_ ?hg (N:=1) ?hd (cs:=#[.int .i64 a0_0,.int .i64 a0_1]) (t:=77) ?hr ?_;(case hd=>rfl);(case hg=>rfl);(case hr=>first|(go_simp;done)|(go_simp;rfl));intro gb143 hg w7 hbox hb;have n0_:=aK (qj_ (by repeat (first|(with_reducible first|exact HB.out|apply qb_|apply qa_|apply qc_)|exact HB.out)) hb);have n1_:=aK (hbox);have n2_:=aK ((by rw [hg];exact (qk_ (by repeat (first|(with_reducible first|exact HB.out|apply qb_|apply qa_|apply qc_)|exact HB.out))):w.heap.size≤gb143));have n3_:=aK ((by rw [hg];exact (qk_ (by repeat (first|(with_reducible first|exact HB.out|apply qb_|apply qa_|apply qc_)|exact HB.out))):w.heap.size≤gb143));clear HB;have HB:=n0_;have BK143:=n1_;have GW143:=n2_;have GE143:=n3_;clear n0_ n1_ n2_ n3_;clear hb hbox hg;have hcz8_0:w7.cell? ⟨gb143,0,none⟩=some (.int .i64 a0_0):=(qg_ BK143.out 0).trans rfl;have hcz8_1:w7.cell? ⟨gb143,1,none⟩=some (.int .i64 a0_1):=(qg_ BK143.out 1).trans rfl;have hfz8_0:=qd_ BK143.out 0;have hfz8_1:=qd_ BK143.out 1)|((with_reducible refine qa1_ (f:=111) rfl ?_);refine goesL_ (some 5) rfl rfl Try.func111 (by kernel_rfl) rfl #[.int .i64 a0_1,.int .i64 1,.int .i64 1000000000] rfl (by (try simp only [List.map_toArray,List.map_cons,List.map_nil]);first|done|rfl|(simp only [List.length_drop,List.length_take];rfl)) ?_;(with_reducible refine (qx1_.calls a0_1 1 1000000000 true _ A2.out).mono ?_);rintro e w' ⟨rfl,⟨nd,rfl⟩⟩;refine ⟨_,rfl,?_⟩)|(go_at_call 214;(with_reducible refine (qb3_.calls a0_0 1000000000 true _ A4.out).mono ?_);rintro e w' ⟨rfl,⟨nd,rfl⟩⟩)|(go_at_call 217;(with_reducible refine (qf1_.calls k a0_0 a0_1 t146 _ A6.out).mono ?_);rintro e w9 ⟨rfl,hb⟩;have n0_:=aK (qm_ (g:=gb143) (o:=.cells #[.int .i64 a0_0,.int .i64 a0_1] 77 (0,0)) (by (with_reducible repeat (first|refine qf_ ?_ _|refine qi_ ?_|refine qe_ ?_ _));exact BK143.out) hb);have n1_:=aK (qj_ (by repeat (first|(with_reducible first|exact HB.out|apply qb_|apply qa_|apply qc_|refine qh_ ?_ GE143.out)|exact HB.out)) hb);clear BK143;clear HB;have BK143:=n0_;have HB:=n1_;clear n0_ n1_;(try clear hb);(try clear hb2);(try clear hk);(try clear hi)))
   go_ret
   exact ⟨by first|rfl|(simp [qo_,qn_] <;> rfl)|(simp [*,qo_,qn_] <;> rfl),by repeat (first|(with_reducible first|exact HB.out|apply qb_|apply qa_|apply qc_|refine qh_ ?_ GE143.out)|exact HB.out)⟩
  ·replace c5:=Bool.eq_false_iff.mpr c5
   subst c5
   have H1:(some false)=some r:=by rw [if_neg (show ¬ (false=true) by decide)] at H;exact H
   clear H
   have H:=H1
   clear H1
   obtain rfl:=Option.some.inj H
   go_enter Try.func206,Try.ntmps206
   go_wp2_with (first|((with_reducible refine qu_ (N:=1) rfl ?_);refine qr_ ?hg (N:=1) ?hd (cs:=#[.int .i64 a0_0,.int .i64 a0_1]) (t:=77) ?hr ?_;(case hd=>rfl);(case hg=>rfl);(case hr=>first|(go_simp;done)|(go_simp;rfl));intro gb143 hg w10 hbox hb;have n0_:=aK (qj_ (by repeat (first|(with_reducible first|exact HB.out|apply qb_|apply qa_|apply qc_)|exact HB.out)) hb);have n1_:=aK (hbox);have n2_:=aK ((by rw [hg];exact (qk_ (by repeat (first|(with_reducible first|exact HB.out|apply qb_|apply qa_|apply qc_)|exact HB.out))):w.heap.size≤gb143));have n3_:=aK ((by rw [hg];exact (qk_ (by repeat (first|(with_reducible first|exact HB.out|apply qb_|apply qa_|apply qc_)|exact HB.out))):w.heap.size≤gb143));clear HB;have HB:=n0_;have BK143:=n1_;have GW143:=n2_;have GE143:=n3_;clear n0_ n1_ n2_ n3_;clear hb hbox hg;have hcz11_0:w10.cell? ⟨gb143,0,none⟩=some (.int .i64 a0_0):=(qg_ BK143.out 0).trans rfl;have hcz11_1:w10.cell? ⟨gb143,1,none⟩=some (.int .i64 a0_1):=(qg_ BK143.out 1).trans rfl;have hfz11_0:=qd_ BK143.out 0;have hfz11_1:=qd_ BK143.out 1)|((with_reducible refine qa1_ (f:=111) rfl ?_);refine goesL_ (some 5) rfl rfl Try.func111 (by kernel_rfl) rfl #[.int .i64 a0_1,.int .i64 1,.int .i64 1000000000] rfl (by (try simp only [List.map_toArray,List.map_cons,List.map_nil]);first|done|rfl|(simp only [List.length_drop,List.length_take];rfl)) ?_;(with_reducible refine (qx1_.calls a0_1 1 1000000000 true _ A2.out).mono ?_);rintro e w' ⟨rfl,⟨nd,rfl⟩⟩;refine ⟨_,rfl,?_⟩)|(go_at_call 214;(with_reducible refine (qb3_.calls a0_0 1000000000 false _ A4.out).mono ?_);rintro e w' ⟨rfl,⟨nd,rfl⟩⟩))
   go_ret
   exact ⟨by first|rfl|(simp [qo_,qn_] <;> rfl)|(simp [*,qo_,qn_] <;> rfl),by repeat (first|(with_reducible first|exact HB.out|apply qb_|apply qa_|apply qc_|refine qh_ ?_ GE143.out)|exact HB.out)⟩
 ·replace c3:=Bool.eq_false_iff.mpr c3
  subst c3
  have H1:(some false)=some r:=by rw [if_neg (show ¬ (false=true) by decide)] at H;exact H
  clear H
  have H:=H1
  clear H1
  obtain rfl:=Option.some.inj H
  go_enter Try.func206,Try.ntmps206
  go_wp2_with (first|((with_reducible refine qu_ (N:=1) rfl ?_);refine qr_ ?hg (N:=1) ?hd (cs:=#[.int .i64 a0_0,.int .i64 a0_1]) (t:=77) ?hr ?_;(case hd=>rfl);(case hg=>rfl);(case hr=>first|(go_simp;done)|(go_simp;rfl));intro gb143 hg w12 hbox hb;have n0_:=aK (qj_ (by repeat (first|(with_reducible first|exact HB.out|apply qb_|apply qa_|apply qc_)|exact HB.out)) hb);have n1_:=aK (hbox);have n2_:=aK ((by rw [hg];exact (qk_ (by repeat (first|(with_reducible first|exact HB.out|apply qb_|apply qa_|apply qc_)|exact HB.out))):w.heap.size≤gb143));have n3_:=aK ((by rw [hg];exact (qk_ (by repeat (first|(with_reducible first|exact HB.out|apply qb_|apply qa_|apply qc_)|exact HB.out))):w.heap.size≤gb143));clear HB;have HB:=n0_;have BK143:=n1_;have GW143:=n2_;have GE143:=n3_;clear n0_ n1_ n2_ n3_;clear hb hbox hg;have hcz13_0:w12.cell? ⟨gb143,0,none⟩=some (.int .i64 a0_0):=(qg_ BK143.out 0).trans rfl;have hcz13_1:w12.cell? ⟨gb143,1,none⟩=some (.int .i64 a0_1):=(qg_ BK143.out 1).trans rfl;have hfz13_0:=qd_ BK143.out 0;have hfz13_1:=qd_ BK143.out 1)|((with_reducible refine qa1_ (f:=111) rfl ?_);refine goesL_ (some 5) rfl rfl Try.func111 (by kernel_rfl) rfl #[.int .i64 a0_1,.int .i64 1,.int .i64 1000000000] rfl (by (try simp only [List.map_toArray,List.map_cons,List.map_nil]);first|done|rfl|(simp only [List.length_drop,List.length_take];rfl)) ?_;(with_reducible refine (qx1_.calls a0_1 1 1000000000 false _ A2.out).mono ?_);rintro e w' ⟨rfl,⟨nd,rfl⟩⟩;refine ⟨_,rfl,?_⟩))
  go_ret
  exact ⟨by first|rfl|(simp [qo_,qn_] <;> rfl)|(simp [*,qo_,qn_] <;> rfl),by repeat (first|(with_reducible first|exact HB.out|apply qb_|apply qa_|apply qc_|refine qh_ ?_ GE143.out)|exact HB.out)⟩
end Go.Proofs.Ytaiefdhenikiiaa.Base
namespace Go.Proofs.Ytaiefdhenikiiaa.Base
open Go.RowKit Go.Proofs.YtaiefdhenikiiaaW.PrintWords Go.Proofs.YtaiefdhenikiiaaW.PrintLast Go.Proofs.YtaiefdhenikiiaaW.PrintMore
attribute [local go_sem] max2_int qo1_ max_two min_two max_three min_three max_four min_four Go.Proofs.YtaiefdhenikiiaaZ.qx_   -- for this text's walks alone
set_option linter.unusedVariables false
set_option linter.unusedSimpArgs false
def qq1_.f (k:Nat) (a0:Int) (a1:Int):Option (Int × Int × Bool):=(qf1_.f k a0 a1).bind fun t415=>(if a1 < 0 then (if (wrap64 (-t415))=0 then (none) else ((qe1_.f k (wrap64 (Int.tdiv a0 (wrap64 (-t415)))) (wrap64 (Int.tdiv a1 (wrap64 (-t415))))).bind fun t417=>(some (wrap64 (Int.tdiv a0 (wrap64 (-t415))),wrap64 (Int.tdiv a1 (wrap64 (-t415))),t417)))) else (if t415=0 then (none) else ((qe1_.f k (wrap64 (Int.tdiv a0 t415)) (wrap64 (Int.tdiv a1 t415))).bind fun t419=>(some (wrap64 (Int.tdiv a0 t415),wrap64 (Int.tdiv a1 t415),t419)))))
theorem qq1_.mono:∀ a0 a1 k,LeO (qq1_.f k a0 a1) (qq1_.f (k+1) a0 a1):=by
 intro a0 a1 k
 unfold qq1_.f
 repeat' first
   | (with_reducible exact qe1_.mono _ _ _)
   | (with_reducible exact qf1_.mono _ _ _)
   | (with_reducible exact LeO.refl _)
   | (with_reducible exact LeO.none _)
   | (with_reducible refine LeO.ite ?_ ?_)
   | (with_reducible refine LeO.bind ?_ (fun _=>?_))
   | exact qe1_.mono _ _ _
   | exact qf1_.mono _ _ _
   | exact LeO.none _
   | refine LeO.ite ?_ ?_
   | refine LeO.bind ?_ (fun _=>?_)
def qq1_.T4:Bool × List (List Nat × List Nat):=(true,[([],[]),([],[]),([0,1],[0,1]),([],[]),([],[]),([3,4],[3,4]),([2,5],[2,5]),([],[]),([7,6,0,1,2,3,4,5,6,7],[6,7])])
def qq1_.B4:List Nat:=[0,0,3,0,0,24,63,0,255]
theorem qq1_.tab4:rtab .any (opsOf Try.f181 4)=qq1_.T4:=by kernel_rfl
theorem qq1_.bits4:waitsOk qq1_.T4.2 qq1_.B4=true:=by kernel_rfl
set_option maxHeartbeats 8000000 in
set_option maxRecDepth 100000 in
theorem qq1_.calls (k:Nat) (a0:Int) (a1:Int) (r1:Int) (r2:Int) (r3:Bool) (w:World) (h:qq1_.f k a0 a1=some (r1,r2,r3)) :
  Calls Try.prog 181 #[.int .i64 a0,.int .i64 a1] w fun e w'=>e=.returned (.tuple #[.agg #[.int .i64 r1,.int .i64 r2],.bool r3])∧Below w.heap.size w w':=by
 have hu77:=Try.underlying77
 have HB:=aK (Below.refl w.heap.size w)
 have H:((qf1_.f k a0 a1).bind fun t415=>(if a1 < 0 then (if (wrap64 (-t415))=0 then (none) else ((qe1_.f k (wrap64 (Int.tdiv a0 (wrap64 (-t415)))) (wrap64 (Int.tdiv a1 (wrap64 (-t415))))).bind fun t417=>(some (wrap64 (Int.tdiv a0 (wrap64 (-t415))),wrap64 (Int.tdiv a1 (wrap64 (-t415))),t417)))) else (if t415=0 then (none) else ((qe1_.f k (wrap64 (Int.tdiv a0 t415)) (wrap64 (Int.tdiv a1 t415))).bind fun t419=>(some (wrap64 (Int.tdiv a0 t415),wrap64 (Int.tdiv a1 t415),t419))))))=some (r1,r2,r3):=h
 clear h
 replace H:=Option.bind_eq_some_iff.mp H
 obtain ⟨t415,A30,H⟩:=H
 replace H:(if a1 < 0 then (if (wrap64 (-t415))=0 then (none) else ((qe1_.f k (wrap64 (Int.tdiv a0 (wrap64 (-t415)))) (wrap64 (Int.tdiv a1 (wrap64 (-t415))))).bind fun t417=>(some (wrap64 (Int.tdiv a0 (wrap64 (-t415))),wrap64 (Int.tdiv a1 (wrap64 (-t415))),t417)))) else (if t415=0 then (none) else ((qe1_.f k (wrap64 (Int.tdiv a0 t415)) (wrap64 (Int.tdiv a1 t415))).bind fun t419=>(some (wrap64 (Int.tdiv a0 t415),wrap64 (Int.tdiv a1 t415),t419)))))=some (r1,r2,r3):=H
 have A3:=aK A30
 clear A30
 by_cases c4:a1 < 0
 ·rw [if_pos c4] at H
  have c4b0:decide (a1 < 0)=true:=decide_eq_true c4
  clear c4
  by_cases c5:(wrap64 (-t415))=0
  ·rw [if_pos c5] at H
   exact absurd H (by simp)
  ·rw [if_neg c5] at H
   have c5b0:((wrap64 (-t415)) == 0)=false:=beq_eq_false_iff_ne.mpr c5
   have c5b1:((wrap64 (-t415)) != 0)=true:=bne_iff_ne.mpr c5
   replace H:=Option.bind_eq_some_iff.mp H
   obtain ⟨t417,A60,H⟩:=H
   replace H:(some (wrap64 (Int.tdiv a0 (wrap64 (-t415))),wrap64 (Int.tdiv a1 (wrap64 (-t415))),t417))=some (r1,r2,r3):=H
   have A6:=aK A60
   clear A60
   simp only [Option.some.injEq,Prod.mk.injEq] at H
   obtain ⟨rfl,rfl,rfl⟩:=H
   go_enter Try.func181,Try.ntmps181
   try go_wp2_with (first|((with_reducible refine qu_ (N:=4) rfl ?_);refine qr_ ?hg (N:=4) ?hd (cs:=#[.int .i64 0,.int .i64 0]) (t:=77) ?hr ?_;(case hd=>rfl);(case hg=>rfl);(case hr=>first|(go_simp;done)|(go_simp;rfl));intro gb414 hg w7 hbox hb;have n0_:=aK (qj_ (by repeat (first|(with_reducible first|exact HB.out|apply qb_|apply qa_|apply qc_)|exact HB.out)) hb);have n1_:=aK (hbox);have n2_:=aK ((by rw [hg];exact (qk_ (by repeat (first|(with_reducible first|exact HB.out|apply qb_|apply qa_|apply qc_)|exact HB.out))):w.heap.size≤gb414));have n3_:=aK ((by rw [hg];exact (qk_ (by repeat (first|(with_reducible first|exact HB.out|apply qb_|apply qa_|apply qc_)|exact HB.out))):w.heap.size≤gb414));clear HB;have HB:=n0_;have BK414:=n1_;have GW414:=n2_;have GE414:=n3_;clear n0_ n1_ n2_ n3_;clear hb hbox hg)|((with_reducible refine qa1_ (f:=217) rfl ?_);refine goesL_ (some 10) rfl rfl Try.func217 (by kernel_rfl) rfl #[.int .i64 a0,.int .i64 a1] rfl (by (try simp only [List.map_toArray,List.map_cons,List.map_nil]);first|done|rfl|(simp only [List.length_drop,List.length_take];rfl)) ?_;(with_reducible refine (qf1_.calls k a0 a1 t415 _ A3.out).mono ?_);rintro e w8 ⟨rfl,hb⟩;refine ⟨_,rfl,?_⟩;have n0_:=aK (qm_ (g:=gb414) (o:=.cells #[.int .i64 0,.int .i64 0] 77 (0,0)) (by (with_reducible repeat (first|refine qf_ ?_ _|refine qi_ ?_|refine qe_ ?_ _));exact BK414.out) hb);have n1_:=aK (qj_ (by repeat (first|(with_reducible first|exact HB.out|apply qb_|apply qa_|apply qc_|refine qh_ ?_ GE414.out)|exact HB.out)) hb);clear BK414;clear HB;have BK414:=n0_;have HB:=n1_;clear n0_ n1_;(try clear hb);(try clear hb2);(try clear hk);(try clear hi)))
   have n0_:=aK (qi_ BK414.out)
   have n1_:=aK (qc_ HB.out)
   clear BK414
   clear HB
   have BK414:=n0_
   have HB:=n1_
   clear n0_ n1_
   refine start_ (n:=9) (S:=fun w'=>True) (ds:=[]) #[fF,fF,fF,fF,fF,fF,fF,fF,fF] (by kernel_rfl) rfl rfl trivial (fun hHeld=>?_);refine with_tabW qq1_.tab4 qq1_.bits4 (fun HT_ HW_=>?_)
   generalize w8.drew=w9 at BK414 HB hHeld ⊢
   refine pure_ (i:=0) (N:=some 15) (v:=?_) (a':=?_) #[tT,fF,fF,fF,fF,fF,fF,fF,fF] rfl rfl (any_of HT_.out (by kernel_rfl)) (fun _ _ _ h=>h) (Or.inl ⟨by rfl,?_⟩) ?_ ?_
   rotate_left
   ·intro w'
    go_simp
    with_reducible rfl
   rotate_left
   ·simp only [Act.put,List.setIfInBounds_toArray,List.set_cons_zero,List.set_cons_succ,i64_w,i32_w]
    rfl
   refine pure_ (i:=1) (N:=some 16) (v:=?_) (a':=?_) #[tT,tT,fF,fF,fF,fF,fF,fF,fF] rfl rfl (any_of HT_.out (by kernel_rfl)) (fun _ _ _ h=>h) (Or.inl ⟨by rfl,?_⟩) ?_ ?_
   rotate_left
   ·intro w'
    go_simp
    with_reducible rfl
   rotate_left
   ·simp only [Act.put,List.setIfInBounds_toArray,List.set_cons_zero,List.set_cons_succ,i64_w,i32_w]
    rfl
   refine pure_ (i:=2) (N:=some 17) (v:=?_) (a':=?_) #[tT,tT,tT,fF,fF,fF,fF,fF,fF] rfl rfl (any_of HT_.out (by kernel_rfl)) (fun _ _ _ h=>h) (Or.inl ⟨by rfl,?_⟩) ?_ ?_
   rotate_left
   ·intro w'
    go_simp
    with_reducible rfl
   rotate_left
   ·simp only [Act.put,List.setIfInBounds_toArray,List.set_cons_zero,List.set_cons_succ,i64_w,i32_w]
    rfl
   refine pure_ (i:=3) (N:=some 18) (v:=?_) (a':=?_) #[tT,tT,tT,tT,fF,fF,fF,fF,fF] rfl rfl (any_of HT_.out (by kernel_rfl)) (fun _ _ _ h=>h) (Or.inl ⟨by rfl,?_⟩) ?_ ?_
   rotate_left
   ·intro w'
    go_simp
    with_reducible rfl
   rotate_left
   ·simp only [Act.put,List.setIfInBounds_toArray,List.set_cons_zero,List.set_cons_succ,i64_w,i32_w]
    rfl
   refine pure_ (i:=4) (N:=some 19) (v:=?_) (a':=?_) #[tT,tT,tT,tT,tT,fF,fF,fF,fF] rfl rfl (any_of HT_.out (by kernel_rfl)) (fun _ _ _ h=>h) (Or.inl ⟨by rfl,?_⟩) ?_ ?_
   rotate_left
   ·intro w'
    go_simp
    with_reducible rfl
   rotate_left
   ·simp only [Act.put,List.setIfInBounds_toArray,List.set_cons_zero,List.set_cons_succ,i64_w,i32_w]
    rfl
   refine pure_ (i:=5) (N:=some 20) (v:=?_) (a':=?_) #[tT,tT,tT,tT,tT,tT,fF,fF,fF] rfl rfl (any_of HT_.out (by kernel_rfl)) (fun _ _ _ h=>h) (Or.inl ⟨by rfl,?_⟩) ?_ ?_
   rotate_left
   ·intro w'
    go_simp
    with_reducible rfl
   rotate_left
   ·simp only [Act.put,List.setIfInBounds_toArray,List.set_cons_zero,List.set_cons_succ,i64_w,i32_w]
    rfl
   refine pure_ (i:=6) (N:=some 21) (v:=?_) (a':=?_) #[tT,tT,tT,tT,tT,tT,tT,fF,fF] rfl rfl (any_of HT_.out (by kernel_rfl)) (fun _ _ _ h=>h) (Or.inl ⟨by rfl,?_⟩) ?_ ?_
   rotate_left
   ·intro w'
    go_simp
    with_reducible rfl
   rotate_left
   ·simp only [Act.put,List.setIfInBounds_toArray,List.set_cons_zero,List.set_cons_succ,i64_w,i32_w]
    rfl
   refine one_ (i:=7) (N:=some 7) #[tT,tT,tT,tT,tT,tT,tT,tT,fF] rfl rfl (one_of HT_.out (by kernel_rfl)) (by decide) (fun K hK=>?_)
   refine box_step ?hg (N:=7) ?hd (cs:=#[.int .i64 0,.int .i64 0]) (t:=77) ?hr ?_;(case hd=>rfl);(case hg=>rfl);(case hr=>first|(go_simp;done)|(go_simp;rfl))
   intro gb416 hg w10 hbox hb
   have n0_:=aK (qm_ (g:=gb414) (o:=.cells #[.int .i64 0,.int .i64 0] 77 (0,0)) (by (with_reducible repeat (first|refine qf_ ?_ _|refine qi_ ?_|refine qe_ ?_ _));exact BK414.out) hb)
   have n1_:=aK (qj_ (by repeat (first|(with_reducible first|exact HB.out|apply qb_|apply qa_|apply qc_|refine qh_ ?_ GE414.out)|exact HB.out)) hb)
   have n2_:=aK (hbox)
   have n3_:=aK ((by rw [hg];exact (qk_ (by repeat (first|(with_reducible first|exact HB.out|apply qb_|apply qa_|apply qc_|refine qh_ ?_ GE414.out)|exact HB.out))):w.heap.size≤gb416))
   have n4_:=aK ((by rw [hg];exact (qk_ (by repeat (first|(with_reducible first|exact HB.out|apply qb_|apply qa_|apply qc_|refine qh_ ?_ GE414.out)|exact HB.out))):w.heap.size≤gb416))
   have n5_:=aK ((by rw [hg];exact Nat.ne_of_lt (blk_lt (g:=gb414) (o:=.cells #[.int .i64 0,.int .i64 0] 77 (0,0)) (by (with_reducible repeat (first|refine qf_ ?_ _|refine qi_ ?_|refine qe_ ?_ _));exact BK414.out)):gb414 ≠ gb416))
   have n6_:=aK ((by rw [hg];exact Nat.ne_of_gt (blk_lt (g:=gb414) (o:=.cells #[.int .i64 0,.int .i64 0] 77 (0,0)) (by (with_reducible repeat (first|refine qf_ ?_ _|refine qi_ ?_|refine qe_ ?_ _));exact BK414.out)):gb416 ≠ gb414))
   clear BK414
   clear HB
   have BK414:=n0_
   have HB:=n1_
   have BK416:=n2_
   have GW416:=n3_
   have GE416:=n4_
   have NB414_416:=n5_
   have NB416_414:=n6_
   clear n0_ n1_ n2_ n3_ n4_ n5_ n6_
   clear hb hbox hg
   refine hK.out _ _ trivial (fun hHeld=>?_)
   clear hK K
   refine norm_ (a':=?_) ?_ ?_
   rotate_left
   ·show Act.put _ (some 7) _=_
    simp only [Act.put,List.setIfInBounds_toArray,List.set_cons_zero,List.set_cons_succ,i64_w,i32_w]
    rfl
   refine one_ (i:=8) (N:=none) #[tT,tT,tT,tT,tT,tT,tT,tT,tT] rfl rfl (one_of HT_.out (by kernel_rfl)) (by decide) (fun K hK=>?_)
   have hs11:w10.cell? ⟨gb416,0,none⟩=some (.int .i64 0):=(qg_ BK416.out 0).trans rfl
   have hfs11:=qd_ BK416.out 0
   have hns11_0:=NB414_416.out
   have hms11_0:=NB416_414.out
   have hs12:w10.cell? ⟨gb416,1,none⟩=some (.int .i64 0):=(qg_ BK416.out 1).trans rfl
   have hfs12:=qd_ BK416.out 1
   have hns12_0:=NB414_416.out
   have hms12_0:=NB416_414.out
   refine skip_ (w1:=?_) (by rfl) rfl ?_ ?_
   rotate_left
   ·go_simp
    rfl
   refine hK.out _ _ trivial (fun hHeld=>?_)
   clear hK K
   refine done_ (done_of HT_.out (by kernel_rfl)) ?_
   try go_wp2
   have n0_:Aside0 (((w10.setCell ⟨gb416,0,none⟩ (.int .i64 (wrap64 (Int.tdiv a0 (wrap64 (-t415)))))).setCell ⟨gb416,1,none⟩ (.int .i64 (wrap64 (Int.tdiv a1 (wrap64 (-t415)))))).heap[gb414]?=some (.cells #[.int .i64 0,.int .i64 0] 77 (0,0))):=⟨by (with_reducible repeat (first|refine qf_ ?_ _|refine qi_ ?_|refine qe_ ?_ _));refine qk1_ ?_ NB414_416.out _;(with_reducible repeat (first|refine qf_ ?_ _|refine qi_ ?_|refine qe_ ?_ _));refine qk1_ ?_ NB414_416.out _;(with_reducible repeat (first|refine qf_ ?_ _|refine qi_ ?_|refine qe_ ?_ _));exact BK414.out⟩
   have n1_:Aside0 (((w10.setCell ⟨gb416,0,none⟩ (.int .i64 (wrap64 (Int.tdiv a0 (wrap64 (-t415)))))).setCell ⟨gb416,1,none⟩ (.int .i64 (wrap64 (Int.tdiv a1 (wrap64 (-t415)))))).heap[gb416]?=some (.cells #[.int .i64 (wrap64 (Int.tdiv a0 (wrap64 (-t415)))),.int .i64 (wrap64 (Int.tdiv a1 (wrap64 (-t415))))] 77 (0,0))):=⟨by (with_reducible repeat (first|refine qf_ ?_ _|refine qi_ ?_|refine qe_ ?_ _));refine qi1_ (cs:=#[.int .i64 (wrap64 (Int.tdiv a0 (wrap64 (-t415)))),.int .i64 0]) ?_ 1 _ rfl;(with_reducible repeat (first|refine qf_ ?_ _|refine qi_ ?_|refine qe_ ?_ _));refine qi1_ (cs:=#[.int .i64 0,.int .i64 0]) ?_ 0 _ rfl;(with_reducible repeat (first|refine qf_ ?_ _|refine qi_ ?_|refine qe_ ?_ _));exact BK416.out⟩
   have n2_:Aside0 (Below w.heap.size w ((w10.setCell ⟨gb416,0,none⟩ (.int .i64 (wrap64 (Int.tdiv a0 (wrap64 (-t415)))))).setCell ⟨gb416,1,none⟩ (.int .i64 (wrap64 (Int.tdiv a1 (wrap64 (-t415))))))):=⟨by repeat (first|(with_reducible first|exact HB.out|apply qb_|apply qa_|apply qc_|refine qh_ ?_ GE414.out|refine qh_ ?_ GE416.out)|exact HB.out)⟩
   (try clear BK414)
   (try clear BK416)
   (try clear HB)
   generalize ((w10.setCell ⟨gb416,0,none⟩ (.int .i64 (wrap64 (Int.tdiv a0 (wrap64 (-t415)))))).setCell ⟨gb416,1,none⟩ (.int .i64 (wrap64 (Int.tdiv a1 (wrap64 (-t415))))))=w13 at n0_ n1_ n2_ ⊢
   have BK414:=n0_
   have BK416:=n1_
   have HB:=n2_
   clear n0_ n1_ n2_
   have n0_:=aK (qi_ BK414.out)
   have n1_:=aK (qi_ BK416.out)
   have n2_:=aK (qc_ HB.out)
   clear BK414
   clear BK416
   clear HB
   have BK414:=n0_
   have BK416:=n1_
   have HB:=n2_
   clear n0_ n1_ n2_
   refine start_ (n:=5) (S:=fun w'=>w'.cell? ⟨gb416,0,none⟩=some (.int .i64 (wrap64 (Int.tdiv a0 (wrap64 (-t415)))))∧w'.cell? ⟨gb416,1,none⟩=some (.int .i64 (wrap64 (Int.tdiv a1 (wrap64 (-t415)))))) (ds:=[]) #[fF,fF,fF,fF,fF] (by kernel_rfl) rfl rfl ⟨(qg_ BK416.out 0).trans rfl,(qg_ BK416.out 1).trans rfl⟩ (fun hHeld=>?_)
   generalize w13.drew=w14 at BK414 BK416 HB hHeld ⊢
   refine take_ (i:=0) (N:=some 22) (v:=?_) (a':=?_) #[tT,fF,fF,fF,fF] rfl rfl (by kernel_rfl) (fun _ _ _ h=>h) (Or.inl ⟨by rfl,?_⟩) hHeld ?_ ?_
   rotate_left
   ·rintro w' ⟨s0,s1⟩
    go_simp
    with_reducible rfl
   rotate_left
   ·simp only [Act.put,List.setIfInBounds_toArray,List.set_cons_zero,List.set_cons_succ,i64_w,i32_w]
    rfl
   refine take_ (i:=1) (N:=some 23) (v:=?_) (a':=?_) #[tT,tT,fF,fF,fF] rfl rfl (by kernel_rfl) (fun _ _ _ h=>h) (Or.inl ⟨by rfl,?_⟩) hHeld ?_ ?_
   rotate_left
   ·rintro w' ⟨s0,s1⟩
    go_simp
    with_reducible rfl
   rotate_left
   ·simp only [Act.put,List.setIfInBounds_toArray,List.set_cons_zero,List.set_cons_succ,i64_w,i32_w]
    rfl
   refine one_ (i:=2) (N:=some 24) #[tT,tT,tT,fF,fF] rfl rfl (by kernel_rfl) (by decide) (fun K hK=>?_)
   refine goes_ Try.func206 (by kernel_rfl) rfl #[.agg #[.int .i64 (wrap64 (Int.tdiv a0 (wrap64 (-t415)))),.int .i64 (wrap64 (Int.tdiv a1 (wrap64 (-t415))))]] (by rfl) rfl rfl (by (try simp only [List.map_toArray,List.map_cons,List.map_nil]);first|done|rfl|(simp only [List.length_drop,List.length_take];rfl)) ?_
   with_reducible refine (qe1_.calls k (wrap64 (Int.tdiv a0 (wrap64 (-t415)))) (wrap64 (Int.tdiv a1 (wrap64 (-t415)))) t417 _ A6.out).mono ?_
   rintro e w15 ⟨rfl,hb⟩
   refine ⟨_,rfl,?_⟩
   have n0_:=aK (qm_ (g:=gb414) (o:=.cells #[.int .i64 0,.int .i64 0] 77 (0,0)) (by (with_reducible repeat (first|refine qf_ ?_ _|refine qi_ ?_|refine qe_ ?_ _));exact BK414.out) hb)
   have n1_:=aK (qm_ (g:=gb416) (o:=.cells #[.int .i64 (wrap64 (Int.tdiv a0 (wrap64 (-t415)))),.int .i64 (wrap64 (Int.tdiv a1 (wrap64 (-t415))))] 77 (0,0)) (by (with_reducible repeat (first|refine qf_ ?_ _|refine qi_ ?_|refine qe_ ?_ _));exact BK416.out) hb)
   have n2_:=aK (qj_ (by repeat (first|(with_reducible first|exact HB.out|apply qb_|apply qa_|apply qc_|refine qh_ ?_ GE414.out|refine qh_ ?_ GE416.out)|exact HB.out)) hb)
   clear BK414
   clear BK416
   clear HB
   have BK414:=n0_
   have BK416:=n1_
   have HB:=n2_
   clear n0_ n1_ n2_
   (try clear hb)
   (try clear hb2)
   (try clear hk)
   (try clear hi)
   refine hK.out _ _ ⟨(qg_ BK416.out 0).trans rfl,(qg_ BK416.out 1).trans rfl⟩ (fun hHeld=>?_)
   clear hK K
   refine norm_ (a':=?_) ?_ ?_
   rotate_left
   ·show Act.put _ (some 24) _=_
    simp only [Act.put,List.setIfInBounds_toArray,List.set_cons_zero,List.set_cons_succ,i64_w,i32_w]
    rfl
   refine one_ (i:=3) (N:=none) #[tT,tT,tT,tT,fF] rfl rfl (by kernel_rfl) (by decide) (fun K hK=>?_)
   have hs16:w15.cell? ⟨gb414,0,none⟩=some (.int .i64 0):=(qg_ BK414.out 0).trans rfl
   have hfs16:=qd_ BK414.out 0
   have hns16_1:=NB416_414.out
   have hms16_1:=NB414_416.out
   have hs17:w15.cell? ⟨gb414,1,none⟩=some (.int .i64 0):=(qg_ BK414.out 1).trans rfl
   have hfs17:=qd_ BK414.out 1
   have hns17_1:=NB416_414.out
   have hms17_1:=NB414_416.out
   refine skip_ (w1:=?_) (by rfl) rfl ?_ ?_
   rotate_left
   ·go_simp
    rfl
   refine hK.out _ _ ⟨((cell_far (p:=⟨gb414,_,none⟩) NB416_414.out _).trans (((cell_far (p:=⟨gb414,_,none⟩) NB416_414.out _).trans (hHeld.1)))),((cell_far (p:=⟨gb414,_,none⟩) NB416_414.out _).trans (((cell_far (p:=⟨gb414,_,none⟩) NB416_414.out _).trans (hHeld.2))))⟩ (fun hHeld=>?_)
   clear hK K
   refine pure_ (i:=4) (N:=some 5) (v:=?_) (a':=?_) #[tT,tT,tT,tT,tT] rfl rfl (by kernel_rfl) (fun _ _ _ h=>h) (Or.inl ⟨by rfl,?_⟩) ?_ ?_
   rotate_left
   ·intro w'
    go_simp
    with_reducible rfl
   rotate_left
   ·simp only [Act.put,List.setIfInBounds_toArray,List.set_cons_zero,List.set_cons_succ,i64_w,i32_w]
    rfl
   refine done_ (by kernel_rfl) ?_
   try go_wp2
   refine bodyPost_ret (results_ct rfl _ _ gb414 77 #[.int .i64 (wrap64 (Int.tdiv a0 (wrap64 (-t415)))),.int .i64 (wrap64 (Int.tdiv a1 (wrap64 (-t415))))] (0,0) _ rfl (by (with_reducible repeat (first|refine qf_ ?_ _|refine qi_ ?_|refine qe_ ?_ _));refine qi1_ (cs:=#[.int .i64 (wrap64 (Int.tdiv a0 (wrap64 (-t415)))),.int .i64 0]) ?_ 1 _ rfl;(with_reducible repeat (first|refine qf_ ?_ _|refine qi_ ?_|refine qe_ ?_ _));refine qi1_ (cs:=#[.int .i64 0,.int .i64 0]) ?_ 0 _ rfl;(with_reducible repeat (first|refine qf_ ?_ _|refine qi_ ?_|refine qe_ ?_ _));exact BK414.out) Try.underlying77 rfl (by kernel_rfl)) rfl ?_
   exact ⟨by first|rfl|(simp [qo_,qn_] <;> rfl)|(simp [*,qo_,qn_] <;> rfl),by repeat (first|(with_reducible first|exact HB.out|apply qb_|apply qa_|apply qc_|refine qh_ ?_ GE414.out|refine qh_ ?_ GE416.out)|exact HB.out)⟩
 ·rw [if_neg c4] at H
  have c4b0:decide (a1 < 0)=false:=decide_eq_false c4
  clear c4
  by_cases c18:t415=0
  ·rw [if_pos c18] at H
   exact absurd H (by simp)
  ·rw [if_neg c18] at H
   have c18b0:(t415 == 0)=false:=beq_eq_false_iff_ne.mpr c18
   have c18b1:(t415 != 0)=true:=bne_iff_ne.mpr c18
   replace H:=Option.bind_eq_some_iff.mp H
   obtain ⟨t419,A190,H⟩:=H
   replace H:(some (wrap64 (Int.tdiv a0 t415),wrap64 (Int.tdiv a1 t415),t419))=some (r1,r2,r3):=H
   have A19:=aK A190
   clear A190
   simp only [Option.some.injEq,Prod.mk.injEq] at H
   obtain ⟨rfl,rfl,rfl⟩:=H
   go_enter Try.func181,Try.ntmps181
   try go_wp2_with (first|((with_reducible refine qu_ (N:=4) rfl ?_);refine qr_ ?hg (N:=4) ?hd (cs:=#[.int .i64 0,.int .i64 0]) (t:=77) ?hr ?_;(case hd=>rfl);(case hg=>rfl);(case hr=>first|(go_simp;done)|(go_simp;rfl));intro gb414 hg w20 hbox hb;have n0_:=aK (qj_ (by repeat (first|(with_reducible first|exact HB.out|apply qb_|apply qa_|apply qc_)|exact HB.out)) hb);have n1_:=aK (hbox);have n2_:=aK ((by rw [hg];exact (qk_ (by repeat (first|(with_reducible first|exact HB.out|apply qb_|apply qa_|apply qc_)|exact HB.out))):w.heap.size≤gb414));have n3_:=aK ((by rw [hg];exact (qk_ (by repeat (first|(with_reducible first|exact HB.out|apply qb_|apply qa_|apply qc_)|exact HB.out))):w.heap.size≤gb414));clear HB;have HB:=n0_;have BK414:=n1_;have GW414:=n2_;have GE414:=n3_;clear n0_ n1_ n2_ n3_;clear hb hbox hg)|((with_reducible refine qa1_ (f:=217) rfl ?_);refine goesL_ (some 10) rfl rfl Try.func217 (by kernel_rfl) rfl #[.int .i64 a0,.int .i64 a1] rfl (by (try simp only [List.map_toArray,List.map_cons,List.map_nil]);first|done|rfl|(simp only [List.length_drop,List.length_take];rfl)) ?_;(with_reducible refine (qf1_.calls k a0 a1 t415 _ A3.out).mono ?_);rintro e w21 ⟨rfl,hb⟩;refine ⟨_,rfl,?_⟩;have n0_:=aK (qm_ (g:=gb414) (o:=.cells #[.int .i64 0,.int .i64 0] 77 (0,0)) (by (with_reducible repeat (first|refine qf_ ?_ _|refine qi_ ?_|refine qe_ ?_ _));exact BK414.out) hb);have n1_:=aK (qj_ (by repeat (first|(with_reducible first|exact HB.out|apply qb_|apply qa_|apply qc_|refine qh_ ?_ GE414.out)|exact HB.out)) hb);clear BK414;clear HB;have BK414:=n0_;have HB:=n1_;clear n0_ n1_;(try clear hb);(try clear hb2);(try clear hk);(try clear hi)))
   have n0_:=aK (qi_ BK414.out)
   have n1_:=aK (qc_ HB.out)
   clear BK414
   clear HB
   have BK414:=n0_
   have HB:=n1_
   clear n0_ n1_
   refine start_ (n:=9) (S:=fun w'=>True) (ds:=[]) #[fF,fF,fF,fF,fF,fF,fF,fF,fF] (by kernel_rfl) rfl rfl trivial (fun hHeld=>?_);refine with_tabW qq1_.tab4 qq1_.bits4 (fun HT_ HW_=>?_)
   generalize w21.drew=w22 at BK414 HB hHeld ⊢
   refine pure_ (i:=0) (N:=some 15) (v:=?_) (a':=?_) #[tT,fF,fF,fF,fF,fF,fF,fF,fF] rfl rfl (any_of HT_.out (by kernel_rfl)) (fun _ _ _ h=>h) (Or.inl ⟨by rfl,?_⟩) ?_ ?_
   rotate_left
   ·intro w'
    go_simp
    with_reducible rfl
   rotate_left
   ·simp only [Act.put,List.setIfInBounds_toArray,List.set_cons_zero,List.set_cons_succ,i64_w,i32_w]
    rfl
   refine pure_ (i:=1) (N:=some 16) (v:=?_) (a':=?_) #[tT,tT,fF,fF,fF,fF,fF,fF,fF] rfl rfl (any_of HT_.out (by kernel_rfl)) (fun _ _ _ h=>h) (Or.inl ⟨by rfl,?_⟩) ?_ ?_
   rotate_left
   ·intro w'
    go_simp
    with_reducible rfl
   rotate_left
   ·simp only [Act.put,List.setIfInBounds_toArray,List.set_cons_zero,List.set_cons_succ,i64_w,i32_w]
    rfl
   refine pure_ (i:=2) (N:=some 17) (v:=?_) (a':=?_) #[tT,tT,tT,fF,fF,fF,fF,fF,fF] rfl rfl (any_of HT_.out (by kernel_rfl)) (fun _ _ _ h=>h) (Or.inl ⟨by rfl,?_⟩) ?_ ?_
   rotate_left
   ·intro w'
    go_simp
    with_reducible rfl
   rotate_left
   ·simp only [Act.put,List.setIfInBounds_toArray,List.set_cons_zero,List.set_cons_succ,i64_w,i32_w]
    rfl
   refine pure_ (i:=3) (N:=some 18) (v:=?_) (a':=?_) #[tT,tT,tT,tT,fF,fF,fF,fF,fF] rfl rfl (any_of HT_.out (by kernel_rfl)) (fun _ _ _ h=>h) (Or.inl ⟨by rfl,?_⟩) ?_ ?_
   rotate_left
   ·intro w'
    go_simp
    with_reducible rfl
   rotate_left
   ·simp only [Act.put,List.setIfInBounds_toArray,List.set_cons_zero,List.set_cons_succ,i64_w,i32_w]
    rfl
   refine pure_ (i:=4) (N:=some 19) (v:=?_) (a':=?_) #[tT,tT,tT,tT,tT,fF,fF,fF,fF] rfl rfl (any_of HT_.out (by kernel_rfl)) (fun _ _ _ h=>h) (Or.inl ⟨by rfl,?_⟩) ?_ ?_
   rotate_left
   ·intro w'
    go_simp
    with_reducible rfl
   rotate_left
   ·simp only [Act.put,List.setIfInBounds_toArray,List.set_cons_zero,List.set_cons_succ,i64_w,i32_w]
    rfl
   refine pure_ (i:=5) (N:=some 20) (v:=?_) (a':=?_) #[tT,tT,tT,tT,tT,tT,fF,fF,fF] rfl rfl (any_of HT_.out (by kernel_rfl)) (fun _ _ _ h=>h) (Or.inl ⟨by rfl,?_⟩) ?_ ?_
   rotate_left
   ·intro w'
    go_simp
    with_reducible rfl
   rotate_left
   ·simp only [Act.put,List.setIfInBounds_toArray,List.set_cons_zero,List.set_cons_succ,i64_w,i32_w]
    rfl
   refine pure_ (i:=6) (N:=some 21) (v:=?_) (a':=?_) #[tT,tT,tT,tT,tT,tT,tT,fF,fF] rfl rfl (any_of HT_.out (by kernel_rfl)) (fun _ _ _ h=>h) (Or.inl ⟨by rfl,?_⟩) ?_ ?_
   rotate_left
   ·intro w'
    go_simp
    with_reducible rfl
   rotate_left
   ·simp only [Act.put,List.setIfInBounds_toArray,List.set_cons_zero,List.set_cons_succ,i64_w,i32_w]
    rfl
   refine one_ (i:=7) (N:=some 7) #[tT,tT,tT,tT,tT,tT,tT,tT,fF] rfl rfl (one_of HT_.out (by kernel_rfl)) (by decide) (fun K hK=>?_)
   refine box_step ?hg (N:=7) ?hd (cs:=#[.int .i64 0,.int .i64 0]) (t:=77) ?hr ?_;(case hd=>rfl);(case hg=>rfl);(case hr=>first|(go_simp;done)|(go_simp;rfl))
   intro gb418 hg w23 hbox hb
   have n0_:=aK (qm_ (g:=gb414) (o:=.cells #[.int .i64 0,.int .i64 0] 77 (0,0)) (by (with_reducible repeat (first|refine qf_ ?_ _|refine qi_ ?_|refine qe_ ?_ _));exact BK414.out) hb)
   have n1_:=aK (qj_ (by repeat (first|(with_reducible first|exact HB.out|apply qb_|apply qa_|apply qc_|refine qh_ ?_ GE414.out)|exact HB.out)) hb)
   have n2_:=aK (hbox)
   have n3_:=aK ((by rw [hg];exact (qk_ (by repeat (first|(with_reducible first|exact HB.out|apply qb_|apply qa_|apply qc_|refine qh_ ?_ GE414.out)|exact HB.out))):w.heap.size≤gb418))
   have n4_:=aK ((by rw [hg];exact (qk_ (by repeat (first|(with_reducible first|exact HB.out|apply qb_|apply qa_|apply qc_|refine qh_ ?_ GE414.out)|exact HB.out))):w.heap.size≤gb418))
   have n5_:=aK ((by rw [hg];exact Nat.ne_of_lt (blk_lt (g:=gb414) (o:=.cells #[.int .i64 0,.int .i64 0] 77 (0,0)) (by (with_reducible repeat (first|refine qf_ ?_ _|refine qi_ ?_|refine qe_ ?_ _));exact BK414.out)):gb414 ≠ gb418))
   have n6_:=aK ((by rw [hg];exact Nat.ne_of_gt (blk_lt (g:=gb414) (o:=.cells #[.int .i64 0,.int .i64 0] 77 (0,0)) (by (with_reducible repeat (first|refine qf_ ?_ _|refine qi_ ?_|refine qe_ ?_ _));exact BK414.out)):gb418 ≠ gb414))
   clear BK414
   clear HB
   have BK414:=n0_
   have HB:=n1_
   have BK418:=n2_
   have GW418:=n3_
   have GE418:=n4_
   have NB414_418:=n5_
   have NB418_414:=n6_
   clear n0_ n1_ n2_ n3_ n4_ n5_ n6_
   clear hb hbox hg
   refine hK.out _ _ trivial (fun hHeld=>?_)
   clear hK K
   refine norm_ (a':=?_) ?_ ?_
   rotate_left
   ·show Act.put _ (some 7) _=_
    simp only [Act.put,List.setIfInBounds_toArray,List.set_cons_zero,List.set_cons_succ,i64_w,i32_w]
    rfl
   refine one_ (i:=8) (N:=none) #[tT,tT,tT,tT,tT,tT,tT,tT,tT] rfl rfl (one_of HT_.out (by kernel_rfl)) (by decide) (fun K hK=>?_)
   have hs24:w23.cell? ⟨gb418,0,none⟩=some (.int .i64 0):=(qg_ BK418.out 0).trans rfl
   have hfs24:=qd_ BK418.out 0
   have hns24_0:=NB414_418.out
   have hms24_0:=NB418_414.out
   have hs25:w23.cell? ⟨gb418,1,none⟩=some (.int .i64 0):=(qg_ BK418.out 1).trans rfl
   have hfs25:=qd_ BK418.out 1
   have hns25_0:=NB414_418.out
   have hms25_0:=NB418_414.out
   refine skip_ (w1:=?_) (by rfl) rfl ?_ ?_
   rotate_left
   ·go_simp
    rfl
   refine hK.out _ _ trivial (fun hHeld=>?_)
   clear hK K
   refine done_ (done_of HT_.out (by kernel_rfl)) ?_
   try go_wp2
   have n0_:Aside0 (((w23.setCell ⟨gb418,0,none⟩ (.int .i64 (wrap64 (Int.tdiv a0 t415)))).setCell ⟨gb418,1,none⟩ (.int .i64 (wrap64 (Int.tdiv a1 t415)))).heap[gb414]?=some (.cells #[.int .i64 0,.int .i64 0] 77 (0,0))):=⟨by (with_reducible repeat (first|refine qf_ ?_ _|refine qi_ ?_|refine qe_ ?_ _));refine qk1_ ?_ NB414_418.out _;(with_reducible repeat (first|refine qf_ ?_ _|refine qi_ ?_|refine qe_ ?_ _));refine qk1_ ?_ NB414_418.out _;(with_reducible repeat (first|refine qf_ ?_ _|refine qi_ ?_|refine qe_ ?_ _));exact BK414.out⟩
   have n1_:Aside0 (((w23.setCell ⟨gb418,0,none⟩ (.int .i64 (wrap64 (Int.tdiv a0 t415)))).setCell ⟨gb418,1,none⟩ (.int .i64 (wrap64 (Int.tdiv a1 t415)))).heap[gb418]?=some (.cells #[.int .i64 (wrap64 (Int.tdiv a0 t415)),.int .i64 (wrap64 (Int.tdiv a1 t415))] 77 (0,0))):=⟨by (with_reducible repeat (first|refine qf_ ?_ _|refine qi_ ?_|refine qe_ ?_ _));refine qi1_ (cs:=#[.int .i64 (wrap64 (Int.tdiv a0 t415)),.int .i64 0]) ?_ 1 _ rfl;(with_reducible repeat (first|refine qf_ ?_ _|refine qi_ ?_|refine qe_ ?_ _));refine qi1_ (cs:=#[.int .i64 0,.int .i64 0]) ?_ 0 _ rfl;(with_reducible repeat (first|refine qf_ ?_ _|refine qi_ ?_|refine qe_ ?_ _));exact BK418.out⟩
   have n2_:Aside0 (Below w.heap.size w ((w23.setCell ⟨gb418,0,none⟩ (.int .i64 (wrap64 (Int.tdiv a0 t415)))).setCell ⟨gb418,1,none⟩ (.int .i64 (wrap64 (Int.tdiv a1 t415))))):=⟨by repeat (first|(with_reducible first|exact HB.out|apply qb_|apply qa_|apply qc_|refine qh_ ?_ GE414.out|refine qh_ ?_ GE418.out)|exact HB.out)⟩
   (try clear BK414)
   (try clear BK418)
   (try clear HB)
   generalize ((w23.setCell ⟨gb418,0,none⟩ (.int .i64 (wrap64 (Int.tdiv a0 t415)))).setCell ⟨gb418,1,none⟩ (.int .i64 (wrap64 (Int.tdiv a1 t415))))=w26 at n0_ n1_ n2_ ⊢
   have BK414:=n0_
   have BK418:=n1_
   have HB:=n2_
   clear n0_ n1_ n2_
   have n0_:=aK (qi_ BK414.out)
   have n1_:=aK (qi_ BK418.out)
   have n2_:=aK (qc_ HB.out)
   clear BK414
   clear BK418
   clear HB
   have BK414:=n0_
   have BK418:=n1_
   have HB:=n2_
   clear n0_ n1_ n2_
   refine start_ (n:=5) (S:=fun w'=>w'.cell? ⟨gb418,0,none⟩=some (.int .i64 (wrap64 (Int.tdiv a0 t415)))∧w'.cell? ⟨gb418,1,none⟩=some (.int .i64 (wrap64 (Int.tdiv a1 t415)))) (ds:=[]) #[fF,fF,fF,fF,fF] (by kernel_rfl) rfl rfl ⟨(qg_ BK418.out 0).trans rfl,(qg_ BK418.out 1).trans rfl⟩ (fun hHeld=>?_)
   generalize w26.drew=w27 at BK414 BK418 HB hHeld ⊢
   refine take_ (i:=0) (N:=some 22) (v:=?_) (a':=?_) #[tT,fF,fF,fF,fF] rfl rfl (by kernel_rfl) (fun _ _ _ h=>h) (Or.inl ⟨by rfl,?_⟩) hHeld ?_ ?_
   rotate_left
   ·rintro w' ⟨s0,s1⟩
    go_simp
    with_reducible rfl
   rotate_left
   ·simp only [Act.put,List.setIfInBounds_toArray,List.set_cons_zero,List.set_cons_succ,i64_w,i32_w]
    rfl
   refine take_ (i:=1) (N:=some 23) (v:=?_) (a':=?_) #[tT,tT,fF,fF,fF] rfl rfl (by kernel_rfl) (fun _ _ _ h=>h) (Or.inl ⟨by rfl,?_⟩) hHeld ?_ ?_
   rotate_left
   ·rintro w' ⟨s0,s1⟩
    go_simp
    with_reducible rfl
   rotate_left
   ·simp only [Act.put,List.setIfInBounds_toArray,List.set_cons_zero,List.set_cons_succ,i64_w,i32_w]
    rfl
   refine one_ (i:=2) (N:=some 24) #[tT,tT,tT,fF,fF] rfl rfl (by kernel_rfl) (by decide) (fun K hK=>?_)
   refine goes_ Try.func206 (by kernel_rfl) rfl #[.agg #[.int .i64 (wrap64 (Int.tdiv a0 t415)),.int .i64 (wrap64 (Int.tdiv a1 t415))]] (by rfl) rfl rfl (by (try simp only [List.map_toArray,List.map_cons,List.map_nil]);first|done|rfl|(simp only [List.length_drop,List.length_take];rfl)) ?_
   with_reducible refine (qe1_.calls k (wrap64 (Int.tdiv a0 t415)) (wrap64 (Int.tdiv a1 t415)) t419 _ A19.out).mono ?_
   rintro e w28 ⟨rfl,hb⟩
   refine ⟨_,rfl,?_⟩
   have n0_:=aK (qm_ (g:=gb414) (o:=.cells #[.int .i64 0,.int .i64 0] 77 (0,0)) (by (with_reducible repeat (first|refine qf_ ?_ _|refine qi_ ?_|refine qe_ ?_ _));exact BK414.out) hb)
   have n1_:=aK (qm_ (g:=gb418) (o:=.cells #[.int .i64 (wrap64 (Int.tdiv a0 t415)),.int .i64 (wrap64 (Int.tdiv a1 t415))] 77 (0,0)) (by (with_reducible repeat (first|refine qf_ ?_ _|refine qi_ ?_|refine qe_ ?_ _));exact BK418.out) hb)
   have n2_:=aK (qj_ (by repeat (first|(with_reducible first|exact HB.out|apply qb_|apply qa_|apply qc_|refine qh_ ?_ GE414.out|refine qh_ ?_ GE418.out)|exact HB.out)) hb)
   clear BK414
   clear BK418
   clear HB
   have BK414:=n0_
   have BK418:=n1_
   have HB:=n2_
   clear n0_ n1_ n2_
   (try clear hb)
   (try clear hb2)
   (try clear hk)
   (try clear hi)
   refine hK.out _ _ ⟨(qg_ BK418.out 0).trans rfl,(qg_ BK418.out 1).trans rfl⟩ (fun hHeld=>?_)
   clear hK K
   refine norm_ (a':=?_) ?_ ?_
   rotate_left
   ·show Act.put _ (some 24) _=_
    simp only [Act.put,List.setIfInBounds_toArray,List.set_cons_zero,List.set_cons_succ,i64_w,i32_w]
    rfl
   refine one_ (i:=3) (N:=none) #[tT,tT,tT,tT,fF] rfl rfl (by kernel_rfl) (by decide) (fun K hK=>?_)
   have hs29:w28.cell? ⟨gb414,0,none⟩=some (.int .i64 0):=(qg_ BK414.out 0).trans rfl
   have hfs29:=qd_ BK414.out 0
   have hns29_1:=NB418_414.out
   have hms29_1:=NB414_418.out
   have hs30:w28.cell? ⟨gb414,1,none⟩=some (.int .i64 0):=(qg_ BK414.out 1).trans rfl
   have hfs30:=qd_ BK414.out 1
   have hns30_1:=NB418_414.out
   have hms30_1:=NB414_418.out
   refine skip_ (w1:=?_) (by rfl) rfl ?_ ?_
   rotate_left
   ·go_simp
    rfl
   refine hK.out _ _ ⟨((cell_far (p:=⟨gb414,_,none⟩) NB418_414.out _).trans (((cell_far (p:=⟨gb414,_,none⟩) NB418_414.out _).trans (hHeld.1)))),((cell_far (p:=⟨gb414,_,none⟩) NB418_414.out _).trans (((cell_far (p:=⟨gb414,_,none⟩) NB418_414.out _).trans (hHeld.2))))⟩ (fun hHeld=>?_)
   clear hK K
   refine pure_ (i:=4) (N:=some 5) (v:=?_) (a':=?_) #[tT,tT,tT,tT,tT] rfl rfl (by kernel_rfl) (fun _ _ _ h=>h) (Or.inl ⟨by rfl,?_⟩) ?_ ?_
   rotate_left
   ·intro w'
    go_simp
    with_reducible rfl
   rotate_left
   ·simp only [Act.put,List.setIfInBounds_toArray,List.set_cons_zero,List.set_cons_succ,i64_w,i32_w]
    rfl
   refine done_ (by kernel_rfl) ?_
   try go_wp2
   refine bodyPost_ret (results_ct rfl _ _ gb414 77 #[.int .i64 (wrap64 (Int.tdiv a0 t415)),.int .i64 (wrap64 (Int.tdiv a1 t415))] (0,0) _ rfl (by (with_reducible repeat (first|refine qf_ ?_ _|refine qi_ ?_|refine qe_ ?_ _));refine qi1_ (cs:=#[.int .i64 (wrap64 (Int.tdiv a0 t415)),.int .i64 0]) ?_ 1 _ rfl;(with_reducible repeat (first|refine qf_ ?_ _|refine qi_ ?_|refine qe_ ?_ _));refine qi1_ (cs:=#[.int .i64 0,.int .i64 0]) ?_ 0 _ rfl;(with_reducible repeat (first|refine qf_ ?_ _|refine qi_ ?_|refine qe_ ?_ _));exact BK414.out) Try.underlying77 rfl (by kernel_rfl)) rfl ?_
   exact ⟨by first|rfl|(simp [qo_,qn_] <;> rfl)|(simp [*,qo_,qn_] <;> rfl),by repeat (first|(with_reducible first|exact HB.out|apply qb_|apply qa_|apply qc_|refine qh_ ?_ GE414.out|refine qh_ ?_ GE418.out)|exact HB.out)⟩
end Go.Proofs.Ytaiefdhenikiiaa.Base
namespace Go.Proofs.Ytaiefdhenikiiaa.Base
open Go.RowKit Go.Proofs.YtaiefdhenikiiaaW.PrintWords Go.Proofs.YtaiefdhenikiiaaW.PrintLast Go.Proofs.YtaiefdhenikiiaaW.PrintMore
attribute [local go_sem] max2_int qo1_ max_two min_two max_three min_three max_four min_four Go.Proofs.YtaiefdhenikiiaaZ.qx_   -- for this text's walks alone
set_option linter.unusedVariables false
set_option linter.unusedSimpArgs false
def qc2_.f (k:Nat) (a0_0:Int) (a0_1:Int) (a1_0:Int) (a1_1:Int):Option (Int × Int × Bool):=(qq1_.f k (wrap64 ((wrap64 (a0_0 * a1_1))+(wrap64 (a1_0 * a0_1)))) (wrap64 (a0_1 * a1_1))).bind fun bt423=>(some (bt423.1,bt423.2.1,bt423.2.2))
theorem qc2_.mono:∀ a0 a1 a2 a3 k,LeO (qc2_.f k a0 a1 a2 a3) (qc2_.f (k+1) a0 a1 a2 a3):=by
 intro a0 a1 a2 a3 k
 unfold qc2_.f
 repeat' first
   | (with_reducible exact qq1_.mono _ _ _)
   | (with_reducible exact LeO.refl _)
   | (with_reducible exact LeO.none _)
   | (with_reducible refine LeO.ite ?_ ?_)
   | (with_reducible refine LeO.bind ?_ (fun _=>?_))
   | exact qq1_.mono _ _ _
   | exact LeO.none _
   | refine LeO.ite ?_ ?_
   | refine LeO.bind ?_ (fun _=>?_)
set_option maxHeartbeats 8000000 in
set_option maxRecDepth 100000 in
theorem qc2_.calls (k:Nat) (a0_0:Int) (a0_1:Int) (a1_0:Int) (a1_1:Int) (r1:Int) (r2:Int) (r3:Bool) (w:World) (h:qc2_.f k a0_0 a0_1 a1_0 a1_1=some (r1,r2,r3)) :
  Calls Try.prog 183 #[.agg #[.int .i64 a0_0,.int .i64 a0_1],.agg #[.int .i64 a1_0,.int .i64 a1_1]] w fun e w'=>e=.returned (.tuple #[.agg #[.int .i64 r1,.int .i64 r2],.bool r3])∧Below w.heap.size w w':=by
 have hu77:=Try.underlying77
 have HB:=aK (Below.refl w.heap.size w)
 have H:((qq1_.f k (wrap64 ((wrap64 (a0_0 * a1_1))+(wrap64 (a1_0 * a0_1)))) (wrap64 (a0_1 * a1_1))).bind fun bt423=>(some (bt423.1,bt423.2.1,bt423.2.2)))=some (r1,r2,r3):=h
 clear h
 replace H:=Option.bind_eq_some_iff.mp H
 obtain ⟨⟨t423,t424,t425⟩,A30,H⟩:=H
 replace H:(some (t423,t424,t425))=some (r1,r2,r3):=H
 have A3:=aK A30
 clear A30
 simp only [Option.some.injEq,Prod.mk.injEq] at H
 obtain ⟨rfl,rfl,rfl⟩:=H
 go_enter Try.func183,Try.ntmps183
 go_wp2_with (first|((with_reducible refine qu_ (N:=2) rfl ?_);refine qr_ ?hg (N:=2) ?hd (cs:=#[.int .i64 a0_0,.int .i64 a0_1]) (t:=77) ?hr ?_;(case hd=>rfl);(case hg=>rfl);(case hr=>first|(go_simp;done)|(go_simp;rfl));intro gb420 hg w4 hbox hb;have n0_:=aK (qj_ (by repeat (first|(with_reducible first|exact HB.out|apply qb_|apply qa_|apply qc_)|exact HB.out)) hb);have n1_:=aK (hbox);have n2_:=aK ((by rw [hg];exact (qk_ (by repeat (first|(with_reducible first|exact HB.out|apply qb_|apply qa_|apply qc_)|exact HB.out))):w.heap.size≤gb420));have n3_:=aK ((by rw [hg];exact (qk_ (by repeat (first|(with_reducible first|exact HB.out|apply qb_|apply qa_|apply qc_)|exact HB.out))):w.heap.size≤gb420));clear HB;have HB:=n0_;have BK420:=n1_;have GW420:=n2_;have GE420:=n3_;clear n0_ n1_ n2_ n3_;clear hb hbox hg)|((with_reducible refine qu_ (N:=3) rfl ?_);refine qr_ ?hg (N:=3) ?hd (cs:=#[.int .i64 a1_0,.int .i64 a1_1]) (t:=77) ?hr ?_;(case hd=>rfl);(case hg=>rfl);(case hr=>first|(go_simp;done)|(go_simp;rfl));intro gb421 hg w5 hbox hb;have n0_:=aK (qm_ (g:=gb420) (o:=.cells #[.int .i64 a0_0,.int .i64 a0_1] 77 (0,0)) (by (with_reducible repeat (first|refine qf_ ?_ _|refine qi_ ?_|refine qe_ ?_ _));exact BK420.out) hb);have n1_:=aK (qj_ (by repeat (first|(with_reducible first|exact HB.out|apply qb_|apply qa_|apply qc_|refine qh_ ?_ GE420.out)|exact HB.out)) hb);have n2_:=aK (hbox);have n3_:=aK ((by rw [hg];exact (qk_ (by repeat (first|(with_reducible first|exact HB.out|apply qb_|apply qa_|apply qc_|refine qh_ ?_ GE420.out)|exact HB.out))):w.heap.size≤gb421));have n4_:=aK ((by rw [hg];exact (qk_ (by repeat (first|(with_reducible first|exact HB.out|apply qb_|apply qa_|apply qc_|refine qh_ ?_ GE420.out)|exact HB.out))):w.heap.size≤gb421));have n5_:=aK ((by rw [hg];exact Nat.ne_of_lt (blk_lt (g:=gb420) (o:=.cells #[.int .i64 a0_0,.int .i64 a0_1] 77 (0,0)) (by (with_reducible repeat (first|refine qf_ ?_ _|refine qi_ ?_|refine qe_ ?_ _));exact BK420.out)):gb420 ≠ gb421));have n6_:=aK ((by rw [hg];exact Nat.ne_of_gt (blk_lt (g:=gb420) (o:=.cells #[.int .i64 a0_0,.int .i64 a0_1] 77 (0,0)) (by (with_reducible repeat (first|refine qf_ ?_ _|refine qi_ ?_|refine qe_ ?_ _));exact BK420.out)):gb421 ≠ gb420));clear BK420;clear HB;have BK420:=n0_;have HB:=n1_;have BK421:=n2_;have GW421:=n3_;have GE421:=n4_;have NB420_421:=n5_;have NB421_420:=n6_;clear n0_ n1_ n2_ n3_ n4_ n5_ n6_;clear hb hbox hg)|((with_reducible refine qu_ (N:=4) rfl ?_);refine qr_ ?hg (N:=4) ?hd (cs:=#[.int .i64 0,.int .i64 0]) (t:=77) ?hr ?_;(case hd=>rfl);(case hg=>rfl);(case hr=>first|(go_simp;done)|(go_simp;rfl));intro gb422 hg w6 hbox hb;have n0_:=aK (qm_ (g:=gb420) (o:=.cells #[.int .i64 a0_0,.int .i64 a0_1] 77 (0,0)) (by (with_reducible repeat (first|refine qf_ ?_ _|refine qi_ ?_|refine qe_ ?_ _));exact BK420.out) hb);have n1_:=aK (qm_ (g:=gb421) (o:=.cells #[.int .i64 a1_0,.int .i64 a1_1] 77 (0,0)) (by (with_reducible repeat (first|refine qf_ ?_ _|refine qi_ ?_|refine qe_ ?_ _));exact BK421.out) hb);have n2_:=aK (qj_ (by repeat (first|(with_reducible first|exact HB.out|apply qb_|apply qa_|apply qc_|refine qh_ ?_ GE420.out|refine qh_ ?_ GE421.out)|exact HB.out)) hb);have n3_:=aK (hbox);have n4_:=aK ((by rw [hg];exact (qk_ (by repeat (first|(with_reducible first|exact HB.out|apply qb_|apply qa_|apply qc_|refine qh_ ?_ GE420.out|refine qh_ ?_ GE421.out)|exact HB.out))):w.heap.size≤gb422));have n5_:=aK ((by rw [hg];exact (qk_ (by repeat (first|(with_reducible first|exact HB.out|apply qb_|apply qa_|apply qc_|refine qh_ ?_ GE420.out|refine qh_ ?_ GE421.out)|exact HB.out))):w.heap.size≤gb422));have n6_:=aK ((by rw [hg];exact Nat.ne_of_lt (blk_lt (g:=gb420) (o:=.cells #[.int .i64 a0_0,.int .i64 a0_1] 77 (0,0)) (by (with_reducible repeat (first|refine qf_ ?_ _|refine qi_ ?_|refine qe_ ?_ _));exact BK420.out)):gb420 ≠ gb422));have n7_:=aK ((by rw [hg];exact Nat.ne_of_gt (blk_lt (g:=gb420) (o:=.cells #[.int .i64 a0_0,.int .i64 a0_1] 77 (0,0)) (by (with_reducible repeat (first|refine qf_ ?_ _|refine qi_ ?_|refine qe_ ?_ _));exact BK420.out)):gb422 ≠ gb420));have n8_:=aK ((by rw [hg];exact Nat.ne_of_lt (blk_lt (g:=gb421) (o:=.cells #[.int .i64 a1_0,.int .i64 a1_1] 77 (0,0)) (by (with_reducible repeat (first|refine qf_ ?_ _|refine qi_ ?_|refine qe_ ?_ _));exact BK421.out)):gb421 ≠ gb422));have n9_:=aK ((by rw [hg];exact Nat.ne_of_gt (blk_lt (g:=gb421) (o:=.cells #[.int .i64 a1_0,.int .i64 a1_1] 77 (0,0)) (by (with_reducible repeat (first|refine qf_ ?_ _|refine qi_ ?_|refine qe_ ?_ _));exact BK421.out)):gb422 ≠ gb421));clear BK420;clear BK421;clear HB;have BK420:=n0_;have BK421:=n1_;have HB:=n2_;have BK422:=n3_;have GW422:=n4_;have GE422:=n5_;have NB420_422:=n6_;have NB422_420:=n7_;have NB421_422:=n8_;have NB422_421:=n9_;clear n0_ n1_ n2_ n3_ n4_ n5_ n6_ n7_ n8_ n9_;clear hb hbox hg;have hnb7:=NB420_421.out;have hnc7:=NB421_420.out;have hnb8:=NB420_422.out;have hnc8:=NB422_420.out;have hcz9_0:w6.cell? ⟨gb420,0,none⟩=some (.int .i64 a0_0):=(qg_ BK420.out 0).trans rfl;have hcz9_1:w6.cell? ⟨gb420,1,none⟩=some (.int .i64 a0_1):=(qg_ BK420.out 1).trans rfl;have hfz9_0:=qd_ BK420.out 0;have hfz9_1:=qd_ BK420.out 1;have hnb10:=NB421_422.out;have hnc10:=NB422_421.out;have hcz11_0:w6.cell? ⟨gb421,0,none⟩=some (.int .i64 a1_0):=(qg_ BK421.out 0).trans rfl;have hcz11_1:w6.cell? ⟨gb421,1,none⟩=some (.int .i64 a1_1):=(qg_ BK421.out 1).trans rfl;have hfz11_0:=qd_ BK421.out 0;have hfz11_1:=qd_ BK421.out 1)|((with_reducible refine qa1_ (f:=181) rfl ?_);refine goesL_ (some 22) rfl rfl Try.func181 (by kernel_rfl) rfl #[.int .i64 (wrap64 ((wrap64 (a0_0 * a1_1))+(wrap64 (a1_0 * a0_1)))),.int .i64 (wrap64 (a0_1 * a1_1))] rfl (by (try simp only [List.map_toArray,List.map_cons,List.map_nil]);first|done|rfl|(simp only [List.length_drop,List.length_take];rfl)) ?_;(with_reducible refine (qq1_.calls k (wrap64 ((wrap64 (a0_0 * a1_1))+(wrap64 (a1_0 * a0_1)))) (wrap64 (a0_1 * a1_1)) t423 t424 t425 _ A3.out).mono ?_);rintro e w12 ⟨rfl,hb⟩;refine ⟨_,rfl,?_⟩;have n0_:=aK (qm_ (g:=gb420) (o:=.cells #[.int .i64 a0_0,.int .i64 a0_1] 77 (0,0)) (by (with_reducible repeat (first|refine qf_ ?_ _|refine qi_ ?_|refine qe_ ?_ _));exact BK420.out) hb);have n1_:=aK (qm_ (g:=gb421) (o:=.cells #[.int .i64 a1_0,.int .i64 a1_1] 77 (0,0)) (by (with_reducible repeat (first|refine qf_ ?_ _|refine qi_ ?_|refine qe_ ?_ _));exact BK421.out) hb);have n2_:=aK (qm_ (g:=gb422) (o:=.cells #[.int .i64 0,.int .i64 0] 77 (0,0)) (by (with_reducible repeat (first|refine qf_ ?_ _|refine qi_ ?_|refine qe_ ?_ _));exact BK422.out) hb);have n3_:=aK (qj_ (by repeat (first|(with_reducible first|exact HB.out|apply qb_|apply qa_|apply qc_|refine qh_ ?_ GE420.out|refine qh_ ?_ GE421.out|refine qh_ ?_ GE422.out)|exact HB.out)) hb);clear BK420;clear BK421;clear BK422;clear HB;have BK420:=n0_;have BK421:=n1_;have BK422:=n2_;have HB:=n3_;clear n0_ n1_ n2_ n3_;(try clear hb);(try clear hb2);(try clear hk);(try clear hi);have hcz13_0:w12.cell? ⟨gb422,0,none⟩=some (.int .i64 0):=(qg_ BK422.out 0).trans rfl;have hcz13_1:w12.cell? ⟨gb422,1,none⟩=some (.int .i64 0):=(qg_ BK422.out 1).trans rfl;have hfz13_0:=qd_ BK422.out 0;have hfz13_1:=qd_ BK422.out 1))
 refine bodyPost_ret (results_ct rfl _ _ gb422 77 #[.int .i64 t423,.int .i64 t424] (0,0) _ rfl (by (with_reducible repeat (first|refine qf_ ?_ _|refine qi_ ?_|refine qe_ ?_ _));refine qi1_ (cs:=#[.int .i64 t423,.int .i64 0]) ?_ 1 _ rfl;(with_reducible repeat (first|refine qf_ ?_ _|refine qi_ ?_|refine qe_ ?_ _));refine qi1_ (cs:=#[.int .i64 0,.int .i64 0]) ?_ 0 _ rfl;(with_reducible repeat (first|refine qf_ ?_ _|refine qi_ ?_|refine qe_ ?_ _));exact BK422.out) Try.underlying77 rfl (by kernel_rfl)) rfl ?_
 exact ⟨by first|rfl|(simp [qo_,qn_] <;> rfl)|(simp [*,qo_,qn_] <;> rfl),by repeat (first|(with_reducible first|exact HB.out|apply qb_|apply qa_|apply qc_|refine qh_ ?_ GE420.out|refine qh_ ?_ GE421.out|refine qh_ ?_ GE422.out)|exact HB.out)⟩
end Go.Proofs.Ytaiefdhenikiiaa.Base
namespace Go.Proofs.Ytaiefdhenikiiaa.Base
open Go.RowKit Go.Proofs.YtaiefdhenikiiaaW.PrintWords Go.Proofs.YtaiefdhenikiiaaW.PrintLast Go.Proofs.YtaiefdhenikiiaaW.PrintMore
attribute [local go_sem] max2_int qo1_ max_two min_two max_three min_three max_four min_four Go.Proofs.YtaiefdhenikiiaaZ.qx_   -- for this text's walks alone
set_option linter.unusedVariables false
set_option linter.unusedSimpArgs false
def qy1_.f (k:Nat) (a0_0:Int) (a0_1:Int) (a1_0:Int) (a1_1:Int):Option (Int × Int × Bool):=(qq1_.f k (wrap64 (a0_0 * a1_0)) (wrap64 (a0_1 * a1_1))).bind fun bt729=>(some (bt729.1,bt729.2.1,bt729.2.2))
theorem qy1_.mono:∀ a0 a1 a2 a3 k,LeO (qy1_.f k a0 a1 a2 a3) (qy1_.f (k+1) a0 a1 a2 a3):=by
 intro a0 a1 a2 a3 k
 unfold qy1_.f
 repeat' first
   | (with_reducible exact qq1_.mono _ _ _)
   | (with_reducible exact LeO.refl _)
   | (with_reducible exact LeO.none _)
   | (with_reducible refine LeO.ite ?_ ?_)
   | (with_reducible refine LeO.bind ?_ (fun _=>?_))
   | exact qq1_.mono _ _ _
   | exact LeO.none _
   | refine LeO.ite ?_ ?_
   | refine LeO.bind ?_ (fun _=>?_)
set_option maxHeartbeats 8000000 in
set_option maxRecDepth 100000 in
theorem qy1_.calls (k:Nat) (a0_0:Int) (a0_1:Int) (a1_0:Int) (a1_1:Int) (r1:Int) (r2:Int) (r3:Bool) (w:World) (h:qy1_.f k a0_0 a0_1 a1_0 a1_1=some (r1,r2,r3)) :
  Calls Try.prog 128 #[.agg #[.int .i64 a0_0,.int .i64 a0_1],.agg #[.int .i64 a1_0,.int .i64 a1_1]] w fun e w'=>e=.returned (.tuple #[.agg #[.int .i64 r1,.int .i64 r2],.bool r3])∧Below w.heap.size w w':=by
 have hu77:=Try.underlying77
 have HB:=aK (Below.refl w.heap.size w)
 have H:((qq1_.f k (wrap64 (a0_0 * a1_0)) (wrap64 (a0_1 * a1_1))).bind fun bt729=>(some (bt729.1,bt729.2.1,bt729.2.2)))=some (r1,r2,r3):=h
 clear h
 replace H:=Option.bind_eq_some_iff.mp H
 obtain ⟨⟨t729,t730,t731⟩,A30,H⟩:=H
 replace H:(some (t729,t730,t731))=some (r1,r2,r3):=H
 have A3:=aK A30
 clear A30
 simp only [Option.some.injEq,Prod.mk.injEq] at H
 obtain ⟨rfl,rfl,rfl⟩:=H
 go_enter Try.func128,Try.ntmps128
 go_wp2_with (first|((with_reducible refine qu_ (N:=2) rfl ?_);refine qr_ ?hg (N:=2) ?hd (cs:=#[.int .i64 a0_0,.int .i64 a0_1]) (t:=77) ?hr ?_;(case hd=>rfl);(case hg=>rfl);(case hr=>first|(go_simp;done)|(go_simp;rfl));intro gb726 hg w4 hbox hb;have n0_:=aK (qj_ (by repeat (first|(with_reducible first|exact HB.out|apply qb_|apply qa_|apply qc_)|exact HB.out)) hb);have n1_:=aK (hbox);have n2_:=aK ((by rw [hg];exact (qk_ (by repeat (first|(with_reducible first|exact HB.out|apply qb_|apply qa_|apply qc_)|exact HB.out))):w.heap.size≤gb726));have n3_:=aK ((by rw [hg];exact (qk_ (by repeat (first|(with_reducible first|exact HB.out|apply qb_|apply qa_|apply qc_)|exact HB.out))):w.heap.size≤gb726));clear HB;have HB:=n0_;have BK726:=n1_;have GW726:=n2_;have GE726:=n3_;clear n0_ n1_ n2_ n3_;clear hb hbox hg)|((with_reducible refine qu_ (N:=3) rfl ?_);refine qr_ ?hg (N:=3) ?hd (cs:=#[.int .i64 a1_0,.int .i64 a1_1]) (t:=77) ?hr ?_;(case hd=>rfl);(case hg=>rfl);(case hr=>first|(go_simp;done)|(go_simp;rfl));intro gb727 hg w5 hbox hb;have n0_:=aK (qm_ (g:=gb726) (o:=.cells #[.int .i64 a0_0,.int .i64 a0_1] 77 (0,0)) (by (with_reducible repeat (first|refine qf_ ?_ _|refine qi_ ?_|refine qe_ ?_ _));exact BK726.out) hb);have n1_:=aK (qj_ (by repeat (first|(with_reducible first|exact HB.out|apply qb_|apply qa_|apply qc_|refine qh_ ?_ GE726.out)|exact HB.out)) hb);have n2_:=aK (hbox);have n3_:=aK ((by rw [hg];exact (qk_ (by repeat (first|(with_reducible first|exact HB.out|apply qb_|apply qa_|apply qc_|refine qh_ ?_ GE726.out)|exact HB.out))):w.heap.size≤gb727));have n4_:=aK ((by rw [hg];exact (qk_ (by repeat (first|(with_reducible first|exact HB.out|apply qb_|apply qa_|apply qc_|refine qh_ ?_ GE726.out)|exact HB.out))):w.heap.size≤gb727));have n5_:=aK ((by rw [hg];exact Nat.ne_of_lt (blk_lt (g:=gb726) (o:=.cells #[.int .i64 a0_0,.int .i64 a0_1] 77 (0,0)) (by (with_reducible repeat (first|refine qf_ ?_ _|refine qi_ ?_|refine qe_ ?_ _));exact BK726.out)):gb726 ≠ gb727));have n6_:=aK ((by rw [hg];exact Nat.ne_of_gt (blk_lt (g:=gb726) (o:=.cells #[.int .i64 a0_0,.int .i64 a0_1] 77 (0,0)) (by (with_reducible repeat (first|refine qf_ ?_ _|refine qi_ ?_|refine qe_ ?_ _));exact BK726.out)):gb727 ≠ gb726));clear BK726;clear HB;have BK726:=n0_;have HB:=n1_;have BK727:=n2_;have GW727:=n3_;have GE727:=n4_;have NB726_727:=n5_;have NB727_726:=n6_;clear n0_ n1_ n2_ n3_ n4_ n5_ n6_;clear hb hbox hg)|((with_reducible refine qu_ (N:=4) rfl ?_);refine qr_ ?hg (N:=4) ?hd (cs:=#[.int .i64 0,.int .i64 0]) (t:=77) ?hr ?_;(case hd=>rfl);(case hg=>rfl);(case hr=>first|(go_simp;done)|(go_simp;rfl));intro gb728 hg w6 hbox hb;have n0_:=aK (qm_ (g:=gb726) (o:=.cells #[.int .i64 a0_0,.int .i64 a0_1] 77 (0,0)) (by (with_reducible repeat (first|refine qf_ ?_ _|refine qi_ ?_|refine qe_ ?_ _));exact BK726.out) hb);have n1_:=aK (qm_ (g:=gb727) (o:=.cells #[.int .i64 a1_0,.int .i64 a1_1] 77 (0,0)) (by (with_reducible repeat (first|refine qf_ ?_ _|refine qi_ ?_|refine qe_ ?_ _));exact BK727.out) hb);have n2_:=aK (qj_ (by repeat (first|(with_reducible first|exact HB.out|apply qb_|apply qa_|apply qc_|refine qh_ ?_ GE726.out|refine qh_ ?_ GE727.out)|exact HB.out)) hb);have n3_:=aK (hbox);have n4_:=aK ((by rw [hg];exact (qk_ (by repeat (first|(with_reducible first|exact HB.out|apply qb_|apply qa_|apply qc_|refine qh_ ?_ GE726.out|refine qh_ ?_ GE727.out)|exact HB.out))):w.heap.size≤gb728));have n5_:=aK ((by rw [hg];exact (qk_ (by repeat (first|(with_reducible first|exact HB.out|apply qb_|apply qa_|apply qc_|refine qh_ ?_ GE726.out|refine qh_ ?_ GE727.out)|exact HB.out))):w.heap.size≤gb728));have n6_:=aK ((by rw [hg];exact Nat.ne_of_lt (blk_lt (g:=gb726) (o:=.cells #[.int .i64 a0_0,.int .i64 a0_1] 77 (0,0)) (by (with_reducible repeat (first|refine qf_ ?_ _|refine qi_ ?_|refine qe_ ?_ _));exact BK726.out)):gb726 ≠ gb728));have n7_:=aK ((by rw [hg];exact Nat.ne_of_gt (blk_lt (g:=gb726) (o:=.cells #[.int .i64 a0_0,.int .i64 a0_1] 77 (0,0)) (by (with_reducible repeat (first|refine qf_ ?_ _|refine qi_ ?_|refine qe_ ?_ _));exact BK726.out)):gb728 ≠ gb726));have n8_:=aK ((by rw [hg];exact Nat.ne_of_lt (blk_lt (g:=gb727) (o:=.cells #[.int .i64 a1_0,.int .i64 a1_1] 77 (0,0)) (by (with_reducible repeat (first|refine qf_ ?_ _|refine qi_ ?_|refine qe_ ?_ _));exact BK727.out)):gb727 ≠ gb728));have n9_:=aK ((by rw [hg];exact Nat.ne_of_gt (blk_lt (g:=gb727) (o:=.cells #[.int .i64 a1_0,.int .i64 a1_1] 77 (0,0)) (by (with_reducible repeat (first|refine qf_ ?_ _|refine qi_ ?_|refine qe_ ?_ _));exact BK727.out)):gb728 ≠ gb727));clear BK726;clear BK727;clear HB;have BK726:=n0_;have BK727:=n1_;have HB:=n2_;have BK728:=n3_;have GW728:=n4_;have GE728:=n5_;have NB726_728:=n6_;have NB728_726:=n7_;have NB727_728:=n8_;have NB728_727:=n9_;clear n0_ n1_ n2_ n3_ n4_ n5_ n6_ n7_ n8_ n9_;clear hb hbox hg;have hnb7:=NB726_727.out;have hnc7:=NB727_726.out;have hnb8:=NB726_728.out;have hnc8:=NB728_726.out;have hcz9_0:w6.cell? ⟨gb726,0,none⟩=some (.int .i64 a0_0):=(qg_ BK726.out 0).trans rfl;have hcz9_1:w6.cell? ⟨gb726,1,none⟩=some (.int .i64 a0_1):=(qg_ BK726.out 1).trans rfl;have hfz9_0:=qd_ BK726.out 0;have hfz9_1:=qd_ BK726.out 1;have hnb10:=NB727_728.out;have hnc10:=NB728_727.out;have hcz11_0:w6.cell? ⟨gb727,0,none⟩=some (.int .i64 a1_0):=(qg_ BK727.out 0).trans rfl;have hcz11_1:w6.cell? ⟨gb727,1,none⟩=some (.int .i64 a1_1):=(qg_ BK727.out 1).trans rfl;have hfz11_0:=qd_ BK727.out 0;have hfz11_1:=qd_ BK727.out 1)|((with_reducible refine qa1_ (f:=181) rfl ?_);refine goesL_ (some 16) rfl rfl Try.func181 (by kernel_rfl) rfl #[.int .i64 (wrap64 (a0_0 * a1_0)),.int .i64 (wrap64 (a0_1 * a1_1))] rfl (by (try simp only [List.map_toArray,List.map_cons,List.map_nil]);first|done|rfl|(simp only [List.length_drop,List.length_take];rfl)) ?_;(with_reducible refine (qq1_.calls k (wrap64 (a0_0 * a1_0)) (wrap64 (a0_1 * a1_1)) t729 t730 t731 _ A3.out).mono ?_);rintro e w12 ⟨rfl,hb⟩;refine ⟨_,rfl,?_⟩;have n0_:=aK (qm_ (g:=gb726) (o:=.cells #[.int .i64 a0_0,.int .i64 a0_1] 77 (0,0)) (by (with_reducible repeat (first|refine qf_ ?_ _|refine qi_ ?_|refine qe_ ?_ _));exact BK726.out) hb);have n1_:=aK (qm_ (g:=gb727) (o:=.cells #[.int .i64 a1_0,.int .i64 a1_1] 77 (0,0)) (by (with_reducible repeat (first|refine qf_ ?_ _|refine qi_ ?_|refine qe_ ?_ _));exact BK727.out) hb);have n2_:=aK (qm_ (g:=gb728) (o:=.cells #[.int .i64 0,.int .i64 0] 77 (0,0)) (by (with_reducible repeat (first|refine qf_ ?_ _|refine qi_ ?_|refine qe_ ?_ _));exact BK728.out) hb);have n3_:=aK (qj_ (by repeat (first|(with_reducible first|exact HB.out|apply qb_|apply qa_|apply qc_|refine qh_ ?_ GE726.out|refine qh_ ?_ GE727.out|refine qh_ ?_ GE728.out)|exact HB.out)) hb);clear BK726;clear BK727;clear BK728;clear HB;have BK726:=n0_;have BK727:=n1_;have BK728:=n2_;have HB:=n3_;clear n0_ n1_ n2_ n3_;(try clear hb);(try clear hb2);(try clear hk);(try clear hi);have hcz13_0:w12.cell? ⟨gb728,0,none⟩=some (.int .i64 0):=(qg_ BK728.out 0).trans rfl;have hcz13_1:w12.cell? ⟨gb728,1,none⟩=some (.int .i64 0):=(qg_ BK728.out 1).trans rfl;have hfz13_0:=qd_ BK728.out 0;have hfz13_1:=qd_ BK728.out 1))
 refine bodyPost_ret (results_ct rfl _ _ gb728 77 #[.int .i64 t729,.int .i64 t730] (0,0) _ rfl (by (with_reducible repeat (first|refine qf_ ?_ _|refine qi_ ?_|refine qe_ ?_ _));refine qi1_ (cs:=#[.int .i64 t729,.int .i64 0]) ?_ 1 _ rfl;(with_reducible repeat (first|refine qf_ ?_ _|refine qi_ ?_|refine qe_ ?_ _));refine qi1_ (cs:=#[.int .i64 0,.int .i64 0]) ?_ 0 _ rfl;(with_reducible repeat (first|refine qf_ ?_ _|refine qi_ ?_|refine qe_ ?_ _));exact BK728.out) Try.underlying77 rfl (by kernel_rfl)) rfl ?_
 exact ⟨by first|rfl|(simp [qo_,qn_] <;> rfl)|(simp [*,qo_,qn_] <;> rfl),by repeat (first|(with_reducible first|exact HB.out|apply qb_|apply qa_|apply qc_|refine qh_ ?_ GE726.out|refine qh_ ?_ GE727.out|refine qh_ ?_ GE728.out)|exact HB.out)⟩
end Go.Proofs.Ytaiefdhenikiiaa.Base
namespace Go.Proofs.Ytaiefdhenikiiaa.Base
open Go.RowKit Go.Proofs.YtaiefdhenikiiaaW.PrintWords Go.Proofs.YtaiefdhenikiiaaW.PrintLast Go.Proofs.YtaiefdhenikiiaaW.PrintMore
attribute [local go_sem] max2_int qo1_ max_two min_two max_three min_three max_four min_four Go.Proofs.YtaiefdhenikiiaaZ.qx_   -- for this text's walks alone
set_option linter.unusedVariables false
set_option linter.unusedSimpArgs false
def qw1_.f (a0:Int) (a1:Int) (a2:Int):Option (Bool):=if a0 ≥ a1 then (some (decide (a0≤a2))) else (some false)
set_option maxHeartbeats 8000000 in
set_option maxRecDepth 100000 in
theorem qw1_.calls (a0:Int) (a1:Int) (a2:Int) (r:Bool) (w:World) (h:qw1_.f a0 a1 a2=some r) :
  Calls Try.prog 107 #[.int .i64 a0,.int .i64 a1,.int .i64 a2] w fun e w'=>e=.returned (.bool r)∧Drawn0 w w':=by
 have H:(if a0 ≥ a1 then (some (decide (a0≤a2))) else (some false))=some r:=h
 clear h
 by_cases c4:a0 ≥ a1
 ·rw [if_pos c4] at H
  have c4b0:decide (a1≤a0)=true:=decide_eq_true c4
  clear c4
  obtain rfl:=Option.some.inj H
  go_enter Try.func107,Try.ntmps107
  go_wp2
  go_ret
  exact ⟨by first|rfl|(simp;done)|(simp [*];done)|(simp [Go.Proofs.YtaiefdhenikiiaaZ.bne_nil];done),by repeat (first|exact Drawn0.refl _|apply Drawn0.step)⟩
 ·rw [if_neg c4] at H
  have c4b0:decide (a1≤a0)=false:=decide_eq_false c4
  clear c4
  obtain rfl:=Option.some.inj H
  go_enter Try.func107,Try.ntmps107
  go_wp2
  go_ret
  exact ⟨by first|rfl|(simp;done)|(simp [*];done)|(simp [Go.Proofs.YtaiefdhenikiiaaZ.bne_nil];done),by repeat (first|exact Drawn0.refl _|apply Drawn0.step)⟩
end Go.Proofs.Ytaiefdhenikiiaa.Base
namespace Go.Proofs.Ytaiefdhenikiiaa.Base
open Go.RowKit Go.Proofs.YtaiefdhenikiiaaW.PrintWords Go.Proofs.YtaiefdhenikiiaaW.PrintLast Go.Proofs.YtaiefdhenikiiaaW.PrintMore
attribute [local go_sem] max2_int qo1_ max_two min_two max_three min_three max_four min_four Go.Proofs.YtaiefdhenikiiaaZ.qx_   -- for this text's walks alone
set_option linter.unusedVariables false
set_option linter.unusedSimpArgs false
def qg1_.l0:Nat→Int→Int→Option (Int)
 | 0,_,_=>none
 | k+1,x0,x1=>if x1=0 then (some (mx x0 (wrap64 (-x0)))) else (qg1_.l0 k x1 (Int.tmod x0 x1))
def qg1_.f (k:Nat) (a0:Int) (a1:Int):Option (Int):=qg1_.l0 k a0 a1
theorem qg1_.mono_l:∀ k,(∀ y0 y1,LeO (qg1_.l0 k y0 y1) (qg1_.l0 (k+1) y0 y1))
 | 0=>fun _ _ r h=>by simp [qg1_.l0] at h
 | k+1=>by
  have ih0:=qg1_.mono_l k
  ·intro y0 y1
   unfold qg1_.l0
   repeat' first
   | (with_reducible exact ih0 _ _)
   | (with_reducible exact LeO.refl _)
   | (with_reducible exact LeO.none _)
   | (with_reducible refine LeO.ite ?_ ?_)
   | (with_reducible refine LeO.bind ?_ (fun _=>?_))
   | exact ih0 _ _
   | exact LeO.none _
   | refine LeO.ite ?_ ?_
   | refine LeO.bind ?_ (fun _=>?_)
theorem qg1_.mono:∀ a0 a1 k,LeO (qg1_.f k a0 a1) (qg1_.f (k+1) a0 a1):=by
 intro a0 a1 k
 have ih0:=qg1_.mono_l k
 unfold qg1_.f
 repeat' first
   | (with_reducible exact ih0 _ _)
   | (with_reducible exact LeO.refl _)
   | (with_reducible exact LeO.none _)
   | (with_reducible refine LeO.ite ?_ ?_)
   | (with_reducible refine LeO.bind ?_ (fun _=>?_))
   | exact ih0 _ _
   | exact LeO.none _
   | refine LeO.ite ?_ ?_
   | refine LeO.bind ?_ (fun _=>?_)
set_option maxHeartbeats 8000000 in
set_option maxRecDepth 100000 in
theorem qg1_.calls (k:Nat) (a0:Int) (a1:Int) (r:Int) (w:World) (h:qg1_.f k a0 a1=some r) :
  Calls Try.prog 205 #[.int .i64 a0,.int .i64 a1] w fun e w'=>e=.returned (.int .i64 r)∧Below w.heap.size w w':=by
 have HB:=aK (Below.refl w.heap.size w)
 have H:(qg1_.l0 k a0 a1)=some r:=h
 clear h
 have H':=aK H
 clear H
 go_enter Try.func205,Try.ntmps205
 go_wp2
 go_loopg [0,1] k (fun kq v0 v1 w'=>∃ (x0_1:Int) (x1_1:Int),v0=.int .i64 x0_1∧v1=.int .i64 x1_1∧Aside0 (qg1_.l0 kq x0_1 x1_1=some r)∧Aside0 (kq≤k)∧Aside0 (Below w.heap.size w w'))
 case atStart=>exact ⟨(a0),(a1),(by first|rfl|(simp;done)|(simp [*];done)),(by first|rfl|(simp;done)|(simp [*];done)),H',⟨Nat.le_refl _⟩,⟨by repeat (first|(with_reducible first|exact HB.out|apply qb_|apply qa_|apply qc_)|exact HB.out)⟩⟩
 case round =>
  clear H'
  try clear c2
  try clear p2
  obtain ⟨x0_1,x1_1,rfl,rfl,HA,HK1,HB⟩:=hrel
  cases gk with
  | zero=>exact absurd HA.out (by simp [qg1_.l0])
  | succ k1 =>
   have H:=HA.out
   clear HA
   simp only [qg1_.l0] at H
   by_cases c3:x1_1=0
   ·rw [if_pos c3] at H
    have c3b0:(x1_1 == 0)=true:=beq_iff_eq.mpr c3
    have c3b1:(x1_1 != 0)=false:=bne_eq_false_iff_eq.mpr c3
    clear c3
    obtain ⟨ji4,hji4⟩:∃ j_:Int,(mx x0_1 (wrap64 (-x0_1)))=j_:=⟨_,rfl⟩
    replace H:(some ji4)=some r:=by first|(rw [hji4] at H;exact H)|(simp only [hji4] at H ⊢;exact H)
    have hji4_:(if x0_1 < (wrap64 (-x0_1)) then (wrap64 (-x0_1)) else x0_1)=ji4:=hji4
    obtain rfl:=Option.some.inj H
    go_wp2
    go_ret
    exact ⟨by first|rfl|(simp [qo_,qn_] <;> rfl)|(simp only [← hji4];first|rfl|(simp [qo_,qn_] <;> rfl))|(simp [*,qo_,qn_] <;> rfl),by repeat (first|(with_reducible first|exact HB.out|apply qb_|apply qa_|apply qc_)|exact HB.out)⟩
   ·rw [if_neg c3] at H
    have c3b0:(x1_1 == 0)=false:=beq_eq_false_iff_ne.mpr c3
    have c3b1:(x1_1 != 0)=true:=bne_iff_ne.mpr c3
    have H':=aK H
    clear H
    go_wp2
    go_roundg k1
    case measure=>have:=HK1.out;omega
    case rel=>exact ⟨(x1_1),(Int.tmod x0_1 x1_1),(by first|rfl|(simp;done)|(simp [*];done)),(by first|rfl|(simp;done)|(simp [*];done)),H',⟨by have:=HK1.out;omega⟩,⟨by repeat (first|(with_reducible first|exact HB.out|apply qb_|apply qa_|apply qc_)|exact HB.out)⟩⟩
end Go.Proofs.Ytaiefdhenikiiaa.Base
namespace Go.Proofs.Ytaiefdhenikiiaa.Base
open Go.RowKit Go.Proofs.YtaiefdhenikiiaaW.PrintWords Go.Proofs.YtaiefdhenikiiaaW.PrintLast Go.Proofs.YtaiefdhenikiiaaW.PrintMore
attribute [local go_sem] max2_int qo1_ max_two min_two max_three min_three max_four min_four Go.Proofs.YtaiefdhenikiiaaZ.qx_   -- for this text's walks alone
set_option linter.unusedVariables false
set_option linter.unusedSimpArgs false
def qv_.f (k:Nat) (a0_0:Int) (a0_1:Int):Option (Bool):=(qw1_.f a0_1 1 1000000000).bind fun t108=>(if t108=true then ((qw1_.f a0_0 (-1000000000) 1000000000).bind fun t109=>(if t109=true then ((qg1_.f k a0_0 a0_1).bind fun t110=>(some (t110 == 1))) else (some false))) else (some false))
theorem qv_.mono:∀ a0 a1 k,LeO (qv_.f k a0 a1) (qv_.f (k+1) a0 a1):=by
 intro a0 a1 k
 unfold qv_.f
 repeat' first
   | (with_reducible exact qg1_.mono _ _ _)
   | (with_reducible exact LeO.refl _)
   | (with_reducible exact LeO.none _)
   | (with_reducible refine LeO.ite ?_ ?_)
   | (with_reducible refine LeO.bind ?_ (fun _=>?_))
   | exact qg1_.mono _ _ _
   | exact LeO.none _
   | refine LeO.ite ?_ ?_
   | refine LeO.bind ?_ (fun _=>?_)
set_option maxHeartbeats 8000000 in
set_option maxRecDepth 100000 in
theorem qv_.calls (k:Nat) (a0_0:Int) (a0_1:Int) (r:Bool) (w:World) (h:qv_.f k a0_0 a0_1=some r) :
  Calls Try.prog 151 #[.agg #[.int .i64 a0_0,.int .i64 a0_1]] w fun e w'=>e=.returned (.bool r)∧Below w.heap.size w w':=by
 have hu77:=Try.underlying77
 have HB:=aK (Below.refl w.heap.size w)
 have H:((qw1_.f a0_1 1 1000000000).bind fun t108=>(if t108=true then ((qw1_.f a0_0 (-1000000000) 1000000000).bind fun t109=>(if t109=true then ((qg1_.f k a0_0 a0_1).bind fun t110=>(some (t110 == 1))) else (some false))) else (some false)))=some r:=h
 clear h
 replace H:=Option.bind_eq_some_iff.mp H
 obtain ⟨t108,A20,H⟩:=H
 replace H:(if t108=true then ((qw1_.f a0_0 (-1000000000) 1000000000).bind fun t109=>(if t109=true then ((qg1_.f k a0_0 a0_1).bind fun t110=>(some (t110 == 1))) else (some false))) else (some false))=some r:=H
 have A2:=aK A20
 clear A20
 by_cases c3:t108=true
 ·subst c3
  have H1:((qw1_.f a0_0 (-1000000000) 1000000000).bind fun t109=>(if t109=true then ((qg1_.f k a0_0 a0_1).bind fun t110=>(some (t110 == 1))) else (some false)))=some r:=by rw [if_pos rfl] at H;exact H
  clear H
  have H:=H1
  clear H1
  replace H:=Option.bind_eq_some_iff.mp H
  obtain ⟨t109,A40,H⟩:=H
  replace H:(if t109=true then ((qg1_.f k a0_0 a0_1).bind fun t110=>(some (t110 == 1))) else (some false))=some r:=H
  have A4:=aK A40
  clear A40
  by_cases c5:t109=true
  ·subst c5
   have H1:((qg1_.f k a0_0 a0_1).bind fun t110=>(some (t110 == 1)))=some r:=by rw [if_pos rfl] at H;exact H
   clear H
   have H:=H1
   clear H1
   replace H:=Option.bind_eq_some_iff.mp H
   obtain ⟨t110,A60,H⟩:=H
   replace H:(some (t110 == 1))=some r:=H
   have A6:=aK A60
   clear A60
   obtain rfl:=Option.some.inj H
   go_enter Try.func151,Try.ntmps151
   go_wp2_with (first|((with_reducible refine qu_ (N:=1) rfl ?_);refine qr_ ?hg (N:=1) ?hd (cs:=#[.int .i64 a0_0,.int .i64 a0_1]) (t:=77) ?hr ?_;(case hd=>rfl);(case hg=>rfl);(case hr=>first|(go_simp;done)|(go_simp;rfl));intro gb107 hg w7 hbox hb;have n0_:=aK (qj_ (by repeat (first|(with_reducible first|exact HB.out|apply qb_|apply qa_|apply qc_)|exact HB.out)) hb);have n1_:=aK (hbox);have n2_:=aK ((by rw [hg];exact (qk_ (by repeat (first|(with_reducible first|exact HB.out|apply qb_|apply qa_|apply qc_)|exact HB.out))):w.heap.size≤gb107));have n3_:=aK ((by rw [hg];exact (qk_ (by repeat (first|(with_reducible first|exact HB.out|apply qb_|apply qa_|apply qc_)|exact HB.out))):w.heap.size≤gb107));clear HB;have HB:=n0_;have BK107:=n1_;have GW107:=n2_;have GE107:=n3_;clear n0_ n1_ n2_ n3_;clear hb hbox hg;have hcz8_0:w7.cell? ⟨gb107,0,none⟩=some (.int .i64 a0_0):=(qg_ BK107.out 0).trans rfl;have hcz8_1:w7.cell? ⟨gb107,1,none⟩=some (.int .i64 a0_1):=(qg_ BK107.out 1).trans rfl;have hfz8_0:=qd_ BK107.out 0;have hfz8_1:=qd_ BK107.out 1)|((with_reducible refine qa1_ (f:=107) rfl ?_);refine goesL_ (some 5) rfl rfl Try.func107 (by kernel_rfl) rfl #[.int .i64 a0_1,.int .i64 1,.int .i64 1000000000] rfl (by (try simp only [List.map_toArray,List.map_cons,List.map_nil]);first|done|rfl|(simp only [List.length_drop,List.length_take];rfl)) ?_;(with_reducible refine (qw1_.calls a0_1 1 1000000000 true _ A2.out).mono ?_);rintro e w' ⟨rfl,⟨nd,rfl⟩⟩;refine ⟨_,rfl,?_⟩)|(go_at_call 107;(with_reducible refine (qw1_.calls a0_0 (-1000000000) 1000000000 true _ A4.out).mono ?_);rintro e w' ⟨rfl,⟨nd,rfl⟩⟩)|(go_at_call 205;(with_reducible refine (qg1_.calls k a0_0 a0_1 t110 _ A6.out).mono ?_);rintro e w9 ⟨rfl,hb⟩;have n0_:=aK (qm_ (g:=gb107) (o:=.cells #[.int .i64 a0_0,.int .i64 a0_1] 77 (0,0)) (by (with_reducible repeat (first|refine qf_ ?_ _|refine qi_ ?_|refine qe_ ?_ _));exact BK107.out) hb);have n1_:=aK (qj_ (by repeat (first|(with_reducible first|exact HB.out|apply qb_|apply qa_|apply qc_|refine qh_ ?_ GE107.out)|exact HB.out)) hb);clear BK107;clear HB;have BK107:=n0_;have HB:=n1_;clear n0_ n1_;(try clear hb);(try clear hb2);(try clear hk);(try clear hi)))
   go_ret
   exact ⟨by first|rfl|(simp [qo_,qn_] <;> rfl)|(simp [*,qo_,qn_] <;> rfl),by repeat (first|(with_reducible first|exact HB.out|apply qb_|apply qa_|apply qc_|refine qh_ ?_ GE107.out)|exact HB.out)⟩
  ·replace c5:=Bool.eq_false_iff.mpr c5
   subst c5
   have H1:(some false)=some r:=by rw [if_neg (show ¬ (false=true) by decide)] at H;exact H
   clear H
   have H:=H1
   clear H1
   obtain rfl:=Option.some.inj H
   go_enter Try.func151,Try.ntmps151
   go_wp2_with (first|((with_reducible refine qu_ (N:=1) rfl ?_);refine qr_ ?hg (N:=1) ?hd (cs:=#[.int .i64 a0_0,.int .i64 a0_1]) (t:=77) ?hr ?_;(case hd=>rfl);(case hg=>rfl);(case hr=>first|(go_simp;done)|(go_simp;rfl));intro gb107 hg w10 hbox hb;have n0_:=aK (qj_ (by repeat (first|(with_reducible first|exact HB.out|apply qb_|apply qa_|apply qc_)|exact HB.out)) hb);have n1_:=aK (hbox);have n2_:=aK ((by rw [hg];exact (qk_ (by repeat (first|(with_reducible first|exact HB.out|apply qb_|apply qa_|apply qc_)|exact HB.out))):w.heap.size≤gb107));have n3_:=aK ((by rw [hg];exact (qk_ (by repeat (first|(with_reducible first|exact HB.out|apply qb_|apply qa_|apply qc_)|exact HB.out))):w.heap.size≤gb107));clear HB;have HB:=n0_;have BK107:=n1_;have GW107:=n2_;have GE107:=n3_;clear n0_ n1_ n2_ n3_;clear hb hbox hg;have hcz11_0:w10.cell? ⟨gb107,0,none⟩=some (.int .i64 a0_0):=(qg_ BK107.out 0).trans rfl;have hcz11_1:w10.cell? ⟨gb107,1,none⟩=some (.int .i64 a0_1):=(qg_ BK107.out 1).trans rfl;have hfz11_0:=qd_ BK107.out 0;have hfz11_1:=qd_ BK107.out 1)|((with_reducible refine qa1_ (f:=107) rfl ?_);refine goesL_ (some 5) rfl rfl Try.func107 (by kernel_rfl) rfl #[.int .i64 a0_1,.int .i64 1,.int .i64 1000000000] rfl (by (try simp only [List.map_toArray,List.map_cons,List.map_nil]);first|done|rfl|(simp only [List.length_drop,List.length_take];rfl)) ?_;(with_reducible refine (qw1_.calls a0_1 1 1000000000 true _ A2.out).mono ?_);rintro e w' ⟨rfl,⟨nd,rfl⟩⟩;refine ⟨_,rfl,?_⟩)|(go_at_call 107;(with_reducible refine (qw1_.calls a0_0 (-1000000000) 1000000000 false _ A4.out).mono ?_);rintro e w' ⟨rfl,⟨nd,rfl⟩⟩))
   go_ret
   exact ⟨by first|rfl|(simp [qo_,qn_] <;> rfl)|(simp [*,qo_,qn_] <;> rfl),by repeat (first|(with_reducible first|exact HB.out|apply qb_|apply qa_|apply qc_|refine qh_ ?_ GE107.out)|exact HB.out)⟩
 ·replace c3:=Bool.eq_false_iff.mpr c3
  subst c3
  have H1:(some false)=some r:=by rw [if_neg (show ¬ (false=true) by decide)] at H;exact H
  clear H
  have H:=H1
  clear H1
  obtain rfl:=Option.some.inj H
  go_enter Try.func151,Try.ntmps151
  go_wp2_with (first|((with_reducible refine qu_ (N:=1) rfl ?_);refine qr_ ?hg (N:=1) ?hd (cs:=#[.int .i64 a0_0,.int .i64 a0_1]) (t:=77) ?hr ?_;(case hd=>rfl);(case hg=>rfl);(case hr=>first|(go_simp;done)|(go_simp;rfl));intro gb107 hg w12 hbox hb;have n0_:=aK (qj_ (by repeat (first|(with_reducible first|exact HB.out|apply qb_|apply qa_|apply qc_)|exact HB.out)) hb);have n1_:=aK (hbox);have n2_:=aK ((by rw [hg];exact (qk_ (by repeat (first|(with_reducible first|exact HB.out|apply qb_|apply qa_|apply qc_)|exact HB.out))):w.heap.size≤gb107));have n3_:=aK ((by rw [hg];exact (qk_ (by repeat (first|(with_reducible first|exact HB.out|apply qb_|apply qa_|apply qc_)|exact HB.out))):w.heap.size≤gb107));clear HB;have HB:=n0_;have BK107:=n1_;have GW107:=n2_;have GE107:=n3_;clear n0_ n1_ n2_ n3_;clear hb hbox hg;have hcz13_0:w12.cell? ⟨gb107,0,none⟩=some (.int .i64 a0_0):=(qg_ BK107.out 0).trans rfl;have hcz13_1:w12.cell? ⟨gb107,1,none⟩=some (.int .i64 a0_1):=(qg_ BK107.out 1).trans rfl;have hfz13_0:=qd_ BK107.out 0;have hfz13_1:=qd_ BK107.out 1)|((with_reducible refine qa1_ (f:=107) rfl ?_);refine goesL_ (some 5) rfl rfl Try.func107 (by kernel_rfl) rfl #[.int .i64 a0_1,.int .i64 1,.int .i64 1000000000] rfl (by (try simp only [List.map_toArray,List.map_cons,List.map_nil]);first|done|rfl|(simp only [List.length_drop,List.length_take];rfl)) ?_;(with_reducible refine (qw1_.calls a0_1 1 1000000000 false _ A2.out).mono ?_);rintro e w' ⟨rfl,⟨nd,rfl⟩⟩;refine ⟨_,rfl,?_⟩))
  go_ret
  exact ⟨by first|rfl|(simp [qo_,qn_] <;> rfl)|(simp [*,qo_,qn_] <;> rfl),by repeat (first|(with_reducible first|exact HB.out|apply qb_|apply qa_|apply qc_|refine qh_ ?_ GE107.out)|exact HB.out)⟩
end Go.Proofs.Ytaiefdhenikiiaa.Base
namespace Go.Proofs.Ytaiefdhenikiiaa.Base
open Go.RowKit Go.Proofs.YtaiefdhenikiiaaW.PrintWords Go.Proofs.YtaiefdhenikiiaaW.PrintLast Go.Proofs.YtaiefdhenikiiaaW.PrintMore
attribute [local go_sem] max2_int qo1_ max_two min_two max_three min_three max_four min_four Go.Proofs.YtaiefdhenikiiaaZ.qx_   -- for this text's walks alone
set_option linter.unusedVariables false
set_option linter.unusedSimpArgs false
def qh1_.f (k:Nat) (a0:Int) (a1:Int):Option (Int × Int × Bool):=if a1=0 then (some (0,0,false)) else ((qg1_.f k a0 a1).bind fun t276=>(if a1 < 0 then (if (wrap64 (-t276))=0 then (none) else ((qv_.f k (wrap64 (Int.tdiv a0 (wrap64 (-t276)))) (wrap64 (Int.tdiv a1 (wrap64 (-t276))))).bind fun t278=>(if t278=true then (some (wrap64 (Int.tdiv a0 (wrap64 (-t276))),wrap64 (Int.tdiv a1 (wrap64 (-t276))),true)) else (some (0,0,false))))) else (if t276=0 then (none) else ((qv_.f k (wrap64 (Int.tdiv a0 t276)) (wrap64 (Int.tdiv a1 t276))).bind fun t280=>(if t280=true then (some (wrap64 (Int.tdiv a0 t276),wrap64 (Int.tdiv a1 t276),true)) else (some (0,0,false)))))))
theorem qh1_.mono:∀ a0 a1 k,LeO (qh1_.f k a0 a1) (qh1_.f (k+1) a0 a1):=by
 intro a0 a1 k
 unfold qh1_.f
 repeat' first
   | (with_reducible exact qg1_.mono _ _ _)
   | (with_reducible exact qv_.mono _ _ _)
   | (with_reducible exact LeO.refl _)
   | (with_reducible exact LeO.none _)
   | (with_reducible refine LeO.ite ?_ ?_)
   | (with_reducible refine LeO.bind ?_ (fun _=>?_))
   | exact qg1_.mono _ _ _
   | exact qv_.mono _ _ _
   | exact LeO.none _
   | refine LeO.ite ?_ ?_
   | refine LeO.bind ?_ (fun _=>?_)
def qh1_.T6:Bool × List (List Nat × List Nat):=(true,[([],[]),([],[]),([0,1],[0,1]),([],[]),([],[]),([3,4],[3,4]),([2,5],[2,5]),([],[]),([7,6,0,1,2,3,4,5,6,7],[6,7])])
def qh1_.B6:List Nat:=[0,0,3,0,0,24,63,0,255]
theorem qh1_.tab6:rtab .any (opsOf Try.f177 6)=qh1_.T6:=by kernel_rfl
theorem qh1_.bits6:waitsOk qh1_.T6.2 qh1_.B6=true:=by kernel_rfl
set_option maxHeartbeats 8000000 in
set_option maxRecDepth 100000 in
theorem qh1_.calls (k:Nat) (a0:Int) (a1:Int) (r1:Int) (r2:Int) (r3:Bool) (w:World) (h:qh1_.f k a0 a1=some (r1,r2,r3)) :
  Calls Try.prog 177 #[.int .i64 a0,.int .i64 a1] w fun e w'=>e=.returned (.tuple #[.agg #[.int .i64 r1,.int .i64 r2],.bool r3])∧Below w.heap.size w w':=by
 have hu77:=Try.underlying77
 have HB:=aK (Below.refl w.heap.size w)
 have H:(if a1=0 then (some (0,0,false)) else ((qg1_.f k a0 a1).bind fun t276=>(if a1 < 0 then (if (wrap64 (-t276))=0 then (none) else ((qv_.f k (wrap64 (Int.tdiv a0 (wrap64 (-t276)))) (wrap64 (Int.tdiv a1 (wrap64 (-t276))))).bind fun t278=>(if t278=true then (some (wrap64 (Int.tdiv a0 (wrap64 (-t276))),wrap64 (Int.tdiv a1 (wrap64 (-t276))),true)) else (some (0,0,false))))) else (if t276=0 then (none) else ((qv_.f k (wrap64 (Int.tdiv a0 t276)) (wrap64 (Int.tdiv a1 t276))).bind fun t280=>(if t280=true then (some (wrap64 (Int.tdiv a0 t276),wrap64 (Int.tdiv a1 t276),true)) else (some (0,0,false))))))))=some (r1,r2,r3):=h
 clear h
 by_cases c3:a1=0
 ·rw [if_pos c3] at H
  have c3b0:(a1 == 0)=true:=beq_iff_eq.mpr c3
  have c3b1:(a1 != 0)=false:=bne_eq_false_iff_eq.mpr c3
  clear c3
  simp only [Option.some.injEq,Prod.mk.injEq] at H
  obtain ⟨rfl,rfl,rfl⟩:=H
  go_enter Try.func177,Try.ntmps177
  go_wp2_with (first|((with_reducible refine qu_ (N:=4) rfl ?_);refine qr_ ?hg (N:=4) ?hd (cs:=#[.int .i64 0,.int .i64 0]) (t:=77) ?hr ?_;(case hd=>rfl);(case hg=>rfl);(case hr=>first|(go_simp;done)|(go_simp;rfl));intro gb275 hg w4 hbox hb;have n0_:=aK (qj_ (by repeat (first|(with_reducible first|exact HB.out|apply qb_|apply qa_|apply qc_)|exact HB.out)) hb);have n1_:=aK (hbox);have n2_:=aK ((by rw [hg];exact (qk_ (by repeat (first|(with_reducible first|exact HB.out|apply qb_|apply qa_|apply qc_)|exact HB.out))):w.heap.size≤gb275));have n3_:=aK ((by rw [hg];exact (qk_ (by repeat (first|(with_reducible first|exact HB.out|apply qb_|apply qa_|apply qc_)|exact HB.out))):w.heap.size≤gb275));clear HB;have HB:=n0_;have BK275:=n1_;have GW275:=n2_;have GE275:=n3_;clear n0_ n1_ n2_ n3_;clear hb hbox hg;have hcz5_0:w4.cell? ⟨gb275,0,none⟩=some (.int .i64 0):=(qg_ BK275.out 0).trans rfl;have hcz5_1:w4.cell? ⟨gb275,1,none⟩=some (.int .i64 0):=(qg_ BK275.out 1).trans rfl;have hfz5_0:=qd_ BK275.out 0;have hfz5_1:=qd_ BK275.out 1))
  refine bodyPost_ret (results_ct rfl _ _ gb275 77 #[.int .i64 0,.int .i64 0] (0,0) _ rfl (by (with_reducible repeat (first|refine qf_ ?_ _|refine qi_ ?_|refine qe_ ?_ _));refine qi1_ (cs:=#[.int .i64 0,.int .i64 0]) ?_ 1 _ rfl;(with_reducible repeat (first|refine qf_ ?_ _|refine qi_ ?_|refine qe_ ?_ _));refine qi1_ (cs:=#[.int .i64 0,.int .i64 0]) ?_ 0 _ rfl;(with_reducible repeat (first|refine qf_ ?_ _|refine qi_ ?_|refine qe_ ?_ _));exact BK275.out) Try.underlying77 rfl (by kernel_rfl)) rfl ?_
  exact ⟨by first|rfl|(simp [qo_,qn_] <;> rfl)|(simp [*,qo_,qn_] <;> rfl),by repeat (first|(with_reducible first|exact HB.out|apply qb_|apply qa_|apply qc_|refine qh_ ?_ GE275.out)|exact HB.out)⟩
 ·rw [if_neg c3] at H
  have c3b0:(a1 == 0)=false:=beq_eq_false_iff_ne.mpr c3
  have c3b1:(a1 != 0)=true:=bne_iff_ne.mpr c3
  replace H:=Option.bind_eq_some_iff.mp H
  obtain ⟨t276,A60,H⟩:=H
  replace H:(if a1 < 0 then (if (wrap64 (-t276))=0 then (none) else ((qv_.f k (wrap64 (Int.tdiv a0 (wrap64 (-t276)))) (wrap64 (Int.tdiv a1 (wrap64 (-t276))))).bind fun t278=>(if t278=true then (some (wrap64 (Int.tdiv a0 (wrap64 (-t276))),wrap64 (Int.tdiv a1 (wrap64 (-t276))),true)) else (some (0,0,false))))) else (if t276=0 then (none) else ((qv_.f k (wrap64 (Int.tdiv a0 t276)) (wrap64 (Int.tdiv a1 t276))).bind fun t280=>(if t280=true then (some (wrap64 (Int.tdiv a0 t276),wrap64 (Int.tdiv a1 t276),true)) else (some (0,0,false))))))=some (r1,r2,r3):=H
  have A6:=aK A60
  clear A60
  by_cases c7:a1 < 0
  ·rw [if_pos c7] at H
   have c7b0:decide (a1 < 0)=true:=decide_eq_true c7
   clear c7
   by_cases c8:(wrap64 (-t276))=0
   ·rw [if_pos c8] at H
    exact absurd H (by simp)
   ·rw [if_neg c8] at H
    have c8b0:((wrap64 (-t276)) == 0)=false:=beq_eq_false_iff_ne.mpr c8
    have c8b1:((wrap64 (-t276)) != 0)=true:=bne_iff_ne.mpr c8
    replace H:=Option.bind_eq_some_iff.mp H
    obtain ⟨t278,A90,H⟩:=H
    replace H:(if t278=true then (some (wrap64 (Int.tdiv a0 (wrap64 (-t276))),wrap64 (Int.tdiv a1 (wrap64 (-t276))),true)) else (some (0,0,false)))=some (r1,r2,r3):=H
    have A9:=aK A90
    clear A90
    by_cases c10:t278=true
    ·subst c10
     have H1:(some (wrap64 (Int.tdiv a0 (wrap64 (-t276))),wrap64 (Int.tdiv a1 (wrap64 (-t276))),true))=some (r1,r2,r3):=by rw [if_pos rfl] at H;exact H
     clear H
     have H:=H1
     clear H1
     simp only [Option.some.injEq,Prod.mk.injEq] at H
     obtain ⟨rfl,rfl,rfl⟩:=H
     go_enter Try.func177,Try.ntmps177
     try go_wp2_with (first|((with_reducible refine qu_ (N:=4) rfl ?_);refine qr_ ?hg (N:=4) ?hd (cs:=#[.int .i64 0,.int .i64 0]) (t:=77) ?hr ?_;(case hd=>rfl);(case hg=>rfl);(case hr=>first|(go_simp;done)|(go_simp;rfl));intro gb275 hg w11 hbox hb;have n0_:=aK (qj_ (by repeat (first|(with_reducible first|exact HB.out|apply qb_|apply qa_|apply qc_)|exact HB.out)) hb);have n1_:=aK (hbox);have n2_:=aK ((by rw [hg];exact (qk_ (by repeat (first|(with_reducible first|exact HB.out|apply qb_|apply qa_|apply qc_)|exact HB.out))):w.heap.size≤gb275));have n3_:=aK ((by rw [hg];exact (qk_ (by repeat (first|(with_reducible first|exact HB.out|apply qb_|apply qa_|apply qc_)|exact HB.out))):w.heap.size≤gb275));clear HB;have HB:=n0_;have BK275:=n1_;have GW275:=n2_;have GE275:=n3_;clear n0_ n1_ n2_ n3_;clear hb hbox hg)|((with_reducible refine qa1_ (f:=205) rfl ?_);refine goesL_ (some 13) rfl rfl Try.func205 (by kernel_rfl) rfl #[.int .i64 a0,.int .i64 a1] rfl (by (try simp only [List.map_toArray,List.map_cons,List.map_nil]);first|done|rfl|(simp only [List.length_drop,List.length_take];rfl)) ?_;(with_reducible refine (qg1_.calls k a0 a1 t276 _ A6.out).mono ?_);rintro e w12 ⟨rfl,hb⟩;refine ⟨_,rfl,?_⟩;have n0_:=aK (qm_ (g:=gb275) (o:=.cells #[.int .i64 0,.int .i64 0] 77 (0,0)) (by (with_reducible repeat (first|refine qf_ ?_ _|refine qi_ ?_|refine qe_ ?_ _));exact BK275.out) hb);have n1_:=aK (qj_ (by repeat (first|(with_reducible first|exact HB.out|apply qb_|apply qa_|apply qc_|refine qh_ ?_ GE275.out)|exact HB.out)) hb);clear BK275;clear HB;have BK275:=n0_;have HB:=n1_;clear n0_ n1_;(try clear hb);(try clear hb2);(try clear hk);(try clear hi)))
     have n0_:=aK (qi_ BK275.out)
     have n1_:=aK (qc_ HB.out)
     clear BK275
     clear HB
     have BK275:=n0_
     have HB:=n1_
     clear n0_ n1_
     refine start_ (n:=9) (S:=fun w'=>True) (ds:=[]) #[fF,fF,fF,fF,fF,fF,fF,fF,fF] (by kernel_rfl) rfl rfl trivial (fun hHeld=>?_);refine with_tabW qh1_.tab6 qh1_.bits6 (fun HT_ HW_=>?_)
     generalize w12.drew=w13 at BK275 HB hHeld ⊢
     refine pure_ (i:=0) (N:=some 18) (v:=?_) (a':=?_) #[tT,fF,fF,fF,fF,fF,fF,fF,fF] rfl rfl (any_of HT_.out (by kernel_rfl)) (fun _ _ _ h=>h) (Or.inl ⟨by rfl,?_⟩) ?_ ?_
     rotate_left
     ·intro w'
      go_simp
      with_reducible rfl
     rotate_left
     ·simp only [Act.put,List.setIfInBounds_toArray,List.set_cons_zero,List.set_cons_succ,i64_w,i32_w]
      rfl
     refine pure_ (i:=1) (N:=some 19) (v:=?_) (a':=?_) #[tT,tT,fF,fF,fF,fF,fF,fF,fF] rfl rfl (any_of HT_.out (by kernel_rfl)) (fun _ _ _ h=>h) (Or.inl ⟨by rfl,?_⟩) ?_ ?_
     rotate_left
     ·intro w'
      go_simp
      with_reducible rfl
     rotate_left
     ·simp only [Act.put,List.setIfInBounds_toArray,List.set_cons_zero,List.set_cons_succ,i64_w,i32_w]
      rfl
     refine pure_ (i:=2) (N:=some 20) (v:=?_) (a':=?_) #[tT,tT,tT,fF,fF,fF,fF,fF,fF] rfl rfl (any_of HT_.out (by kernel_rfl)) (fun _ _ _ h=>h) (Or.inl ⟨by rfl,?_⟩) ?_ ?_
     rotate_left
     ·intro w'
      go_simp
      with_reducible rfl
     rotate_left
     ·simp only [Act.put,List.setIfInBounds_toArray,List.set_cons_zero,List.set_cons_succ,i64_w,i32_w]
      rfl
     refine pure_ (i:=3) (N:=some 21) (v:=?_) (a':=?_) #[tT,tT,tT,tT,fF,fF,fF,fF,fF] rfl rfl (any_of HT_.out (by kernel_rfl)) (fun _ _ _ h=>h) (Or.inl ⟨by rfl,?_⟩) ?_ ?_
     rotate_left
     ·intro w'
      go_simp
      with_reducible rfl
     rotate_left
     ·simp only [Act.put,List.setIfInBounds_toArray,List.set_cons_zero,List.set_cons_succ,i64_w,i32_w]
      rfl
     refine pure_ (i:=4) (N:=some 22) (v:=?_) (a':=?_) #[tT,tT,tT,tT,tT,fF,fF,fF,fF] rfl rfl (any_of HT_.out (by kernel_rfl)) (fun _ _ _ h=>h) (Or.inl ⟨by rfl,?_⟩) ?_ ?_
     rotate_left
     ·intro w'
      go_simp
      with_reducible rfl
     rotate_left
     ·simp only [Act.put,List.setIfInBounds_toArray,List.set_cons_zero,List.set_cons_succ,i64_w,i32_w]
      rfl
     refine pure_ (i:=5) (N:=some 23) (v:=?_) (a':=?_) #[tT,tT,tT,tT,tT,tT,fF,fF,fF] rfl rfl (any_of HT_.out (by kernel_rfl)) (fun _ _ _ h=>h) (Or.inl ⟨by rfl,?_⟩) ?_ ?_
     rotate_left
     ·intro w'
      go_simp
      with_reducible rfl
     rotate_left
     ·simp only [Act.put,List.setIfInBounds_toArray,List.set_cons_zero,List.set_cons_succ,i64_w,i32_w]
      rfl
     refine pure_ (i:=6) (N:=some 24) (v:=?_) (a':=?_) #[tT,tT,tT,tT,tT,tT,tT,fF,fF] rfl rfl (any_of HT_.out (by kernel_rfl)) (fun _ _ _ h=>h) (Or.inl ⟨by rfl,?_⟩) ?_ ?_
     rotate_left
     ·intro w'
      go_simp
      with_reducible rfl
     rotate_left
     ·simp only [Act.put,List.setIfInBounds_toArray,List.set_cons_zero,List.set_cons_succ,i64_w,i32_w]
      rfl
     refine one_ (i:=7) (N:=some 7) #[tT,tT,tT,tT,tT,tT,tT,tT,fF] rfl rfl (one_of HT_.out (by kernel_rfl)) (by decide) (fun K hK=>?_)
     refine box_step ?hg (N:=7) ?hd (cs:=#[.int .i64 0,.int .i64 0]) (t:=77) ?hr ?_;(case hd=>rfl);(case hg=>rfl);(case hr=>first|(go_simp;done)|(go_simp;rfl))
     intro gb277 hg w14 hbox hb
     have n0_:=aK (qm_ (g:=gb275) (o:=.cells #[.int .i64 0,.int .i64 0] 77 (0,0)) (by (with_reducible repeat (first|refine qf_ ?_ _|refine qi_ ?_|refine qe_ ?_ _));exact BK275.out) hb)
     have n1_:=aK (qj_ (by repeat (first|(with_reducible first|exact HB.out|apply qb_|apply qa_|apply qc_|refine qh_ ?_ GE275.out)|exact HB.out)) hb)
     have n2_:=aK (hbox)
     have n3_:=aK ((by rw [hg];exact (qk_ (by repeat (first|(with_reducible first|exact HB.out|apply qb_|apply qa_|apply qc_|refine qh_ ?_ GE275.out)|exact HB.out))):w.heap.size≤gb277))
     have n4_:=aK ((by rw [hg];exact (qk_ (by repeat (first|(with_reducible first|exact HB.out|apply qb_|apply qa_|apply qc_|refine qh_ ?_ GE275.out)|exact HB.out))):w.heap.size≤gb277))
     have n5_:=aK ((by rw [hg];exact Nat.ne_of_lt (blk_lt (g:=gb275) (o:=.cells #[.int .i64 0,.int .i64 0] 77 (0,0)) (by (with_reducible repeat (first|refine qf_ ?_ _|refine qi_ ?_|refine qe_ ?_ _));exact BK275.out)):gb275 ≠ gb277))
     have n6_:=aK ((by rw [hg];exact Nat.ne_of_gt (blk_lt (g:=gb275) (o:=.cells #[.int .i64 0,.int .i64 0] 77 (0,0)) (by (with_reducible repeat (first|refine qf_ ?_ _|refine qi_ ?_|refine qe_ ?_ _));exact BK275.out)):gb277 ≠ gb275))
     clear BK275
     clear HB
     have BK275:=n0_
     have HB:=n1_
     have BK277:=n2_
     have GW277:=n3_
     have GE277:=n4_
     have NB275_277:=n5_
     have NB277_275:=n6_
     clear n0_ n1_ n2_ n3_ n4_ n5_ n6_
     clear hb hbox hg
     refine hK.out _ _ trivial (fun hHeld=>?_)
     clear hK K
     refine norm_ (a':=?_) ?_ ?_
     rotate_left
     ·show Act.put _ (some 7) _=_
      simp only [Act.put,List.setIfInBounds_toArray,List.set_cons_zero,List.set_cons_succ,i64_w,i32_w]
      rfl
     refine one_ (i:=8) (N:=none) #[tT,tT,tT,tT,tT,tT,tT,tT,tT] rfl rfl (one_of HT_.out (by kernel_rfl)) (by decide) (fun K hK=>?_)
     have hs15:w14.cell? ⟨gb277,0,none⟩=some (.int .i64 0):=(qg_ BK277.out 0).trans rfl
     have hfs15:=qd_ BK277.out 0
     have hns15_0:=NB275_277.out
     have hms15_0:=NB277_275.out
     have hs16:w14.cell? ⟨gb277,1,none⟩=some (.int .i64 0):=(qg_ BK277.out 1).trans rfl
     have hfs16:=qd_ BK277.out 1
     have hns16_0:=NB275_277.out
     have hms16_0:=NB277_275.out
     refine skip_ (w1:=?_) (by rfl) rfl ?_ ?_
     rotate_left
     ·go_simp
      rfl
     refine hK.out _ _ trivial (fun hHeld=>?_)
     clear hK K
     refine done_ (done_of HT_.out (by kernel_rfl)) ?_
     have hnb17:=NB277_275.out
     have hnc17:=NB275_277.out
     have hcz18_0:w14.cell? ⟨gb277,0,none⟩=some (.int .i64 0):=(qg_ BK277.out 0).trans rfl
     have hcz18_1:w14.cell? ⟨gb277,1,none⟩=some (.int .i64 0):=(qg_ BK277.out 1).trans rfl
     have hfz18_0:=qd_ BK277.out 0
     have hfz18_1:=qd_ BK277.out 1
     try go_wp2_with (first|((with_reducible refine qa1_ (f:=151) rfl ?_);refine goesL_ (some 26) rfl rfl Try.func151 (by kernel_rfl) rfl #[.agg #[.int .i64 (wrap64 (Int.tdiv a0 (wrap64 (-t276)))),.int .i64 (wrap64 (Int.tdiv a1 (wrap64 (-t276))))]] rfl (by (try simp only [List.map_toArray,List.map_cons,List.map_nil]);first|done|rfl|(simp only [List.length_drop,List.length_take];rfl)) ?_;(with_reducible refine (qv_.calls k (wrap64 (Int.tdiv a0 (wrap64 (-t276)))) (wrap64 (Int.tdiv a1 (wrap64 (-t276)))) true _ A9.out).mono ?_);rintro e w19 ⟨rfl,hb⟩;refine ⟨_,rfl,?_⟩;have n0_:=aK (qm_ (g:=gb275) (o:=.cells #[.int .i64 0,.int .i64 0] 77 (0,0)) (by (with_reducible repeat (first|refine qf_ ?_ _|refine qi_ ?_|refine qe_ ?_ _));refine qk1_ ?_ NB275_277.out _;(with_reducible repeat (first|refine qf_ ?_ _|refine qi_ ?_|refine qe_ ?_ _));refine qk1_ ?_ NB275_277.out _;(with_reducible repeat (first|refine qf_ ?_ _|refine qi_ ?_|refine qe_ ?_ _));exact BK275.out) hb);have n1_:=aK (qm_ (g:=gb277) (o:=.cells #[.int .i64 (wrap64 (Int.tdiv a0 (wrap64 (-t276)))),.int .i64 (wrap64 (Int.tdiv a1 (wrap64 (-t276))))] 77 (0,0)) (by (with_reducible repeat (first|refine qf_ ?_ _|refine qi_ ?_|refine qe_ ?_ _));refine qi1_ (cs:=#[.int .i64 (wrap64 (Int.tdiv a0 (wrap64 (-t276)))),.int .i64 0]) ?_ 1 _ rfl;(with_reducible repeat (first|refine qf_ ?_ _|refine qi_ ?_|refine qe_ ?_ _));refine qi1_ (cs:=#[.int .i64 0,.int .i64 0]) ?_ 0 _ rfl;(with_reducible repeat (first|refine qf_ ?_ _|refine qi_ ?_|refine qe_ ?_ _));exact BK277.out) hb);have n2_:=aK (qj_ (by repeat (first|(with_reducible first|exact HB.out|apply qb_|apply qa_|apply qc_|refine qh_ ?_ GE275.out|refine qh_ ?_ GE277.out)|exact HB.out)) hb);clear BK275;clear BK277;clear HB;have BK275:=n0_;have BK277:=n1_;have HB:=n2_;clear n0_ n1_ n2_;(try clear hb);(try clear hb2);(try clear hk);(try clear hi);have hcz20_0:w19.cell? ⟨gb277,0,none⟩=some (.int .i64 (wrap64 (Int.tdiv a0 (wrap64 (-t276))))):=(qg_ BK277.out 0).trans rfl;have hcz20_1:w19.cell? ⟨gb277,1,none⟩=some (.int .i64 (wrap64 (Int.tdiv a1 (wrap64 (-t276))))):=(qg_ BK277.out 1).trans rfl;have hfz20_0:=qd_ BK277.out 0;have hfz20_1:=qd_ BK277.out 1;have hcz21_0:w19.cell? ⟨gb275,0,none⟩=some (.int .i64 0):=(qg_ BK275.out 0).trans rfl;have hcz21_1:w19.cell? ⟨gb275,1,none⟩=some (.int .i64 0):=(qg_ BK275.out 1).trans rfl;have hfz21_0:=qd_ BK275.out 0;have hfz21_1:=qd_ BK275.out 1))
     refine bodyPost_ret (results_ct rfl _ _ gb275 77 #[.int .i64 (wrap64 (Int.tdiv a0 (wrap64 (-t276)))),.int .i64 (wrap64 (Int.tdiv a1 (wrap64 (-t276))))] (0,0) _ rfl (by (with_reducible repeat (first|refine qf_ ?_ _|refine qi_ ?_|refine qe_ ?_ _));refine qi1_ (cs:=#[.int .i64 (wrap64 (Int.tdiv a0 (wrap64 (-t276)))),.int .i64 0]) ?_ 1 _ rfl;(with_reducible repeat (first|refine qf_ ?_ _|refine qi_ ?_|refine qe_ ?_ _));refine qi1_ (cs:=#[.int .i64 0,.int .i64 0]) ?_ 0 _ rfl;(with_reducible repeat (first|refine qf_ ?_ _|refine qi_ ?_|refine qe_ ?_ _));exact BK275.out) Try.underlying77 rfl (by kernel_rfl)) rfl ?_
     exact ⟨by first|rfl|(simp [qo_,qn_] <;> rfl)|(simp [*,qo_,qn_] <;> rfl),by repeat (first|(with_reducible first|exact HB.out|apply qb_|apply qa_|apply qc_|refine qh_ ?_ GE275.out|refine qh_ ?_ GE277.out)|exact HB.out)⟩
    ·replace c10:=Bool.eq_false_iff.mpr c10
     subst c10
     have H1:(some (0,0,false))=some (r1,r2,r3):=by rw [if_neg (show ¬ (false=true) by decide)] at H;exact H
     clear H
     have H:=H1
     clear H1
     simp only [Option.some.injEq,Prod.mk.injEq] at H
     obtain ⟨rfl,rfl,rfl⟩:=H
     go_enter Try.func177,Try.ntmps177
     try go_wp2_with (first|((with_reducible refine qu_ (N:=4) rfl ?_);refine qr_ ?hg (N:=4) ?hd (cs:=#[.int .i64 0,.int .i64 0]) (t:=77) ?hr ?_;(case hd=>rfl);(case hg=>rfl);(case hr=>first|(go_simp;done)|(go_simp;rfl));intro gb275 hg w22 hbox hb;have n0_:=aK (qj_ (by repeat (first|(with_reducible first|exact HB.out|apply qb_|apply qa_|apply qc_)|exact HB.out)) hb);have n1_:=aK (hbox);have n2_:=aK ((by rw [hg];exact (qk_ (by repeat (first|(with_reducible first|exact HB.out|apply qb_|apply qa_|apply qc_)|exact HB.out))):w.heap.size≤gb275));have n3_:=aK ((by rw [hg];exact (qk_ (by repeat (first|(with_reducible first|exact HB.out|apply qb_|apply qa_|apply qc_)|exact HB.out))):w.heap.size≤gb275));clear HB;have HB:=n0_;have BK275:=n1_;have GW275:=n2_;have GE275:=n3_;clear n0_ n1_ n2_ n3_;clear hb hbox hg)|((with_reducible refine qa1_ (f:=205) rfl ?_);refine goesL_ (some 13) rfl rfl Try.func205 (by kernel_rfl) rfl #[.int .i64 a0,.int .i64 a1] rfl (by (try simp only [List.map_toArray,List.map_cons,List.map_nil]);first|done|rfl|(simp only [List.length_drop,List.length_take];rfl)) ?_;(with_reducible refine (qg1_.calls k a0 a1 t276 _ A6.out).mono ?_);rintro e w23 ⟨rfl,hb⟩;refine ⟨_,rfl,?_⟩;have n0_:=aK (qm_ (g:=gb275) (o:=.cells #[.int .i64 0,.int .i64 0] 77 (0,0)) (by (with_reducible repeat (first|refine qf_ ?_ _|refine qi_ ?_|refine qe_ ?_ _));exact BK275.out) hb);have n1_:=aK (qj_ (by repeat (first|(with_reducible first|exact HB.out|apply qb_|apply qa_|apply qc_|refine qh_ ?_ GE275.out)|exact HB.out)) hb);clear BK275;clear HB;have BK275:=n0_;have HB:=n1_;clear n0_ n1_;(try clear hb);(try clear hb2);(try clear hk);(try clear hi)))
     have n0_:=aK (qi_ BK275.out)
     have n1_:=aK (qc_ HB.out)
     clear BK275
     clear HB
     have BK275:=n0_
     have HB:=n1_
     clear n0_ n1_
     refine start_ (n:=9) (S:=fun w'=>True) (ds:=[]) #[fF,fF,fF,fF,fF,fF,fF,fF,fF] (by kernel_rfl) rfl rfl trivial (fun hHeld=>?_);refine with_tabW qh1_.tab6 qh1_.bits6 (fun HT_ HW_=>?_)
     generalize w23.drew=w24 at BK275 HB hHeld ⊢
     refine pure_ (i:=0) (N:=some 18) (v:=?_) (a':=?_) #[tT,fF,fF,fF,fF,fF,fF,fF,fF] rfl rfl (any_of HT_.out (by kernel_rfl)) (fun _ _ _ h=>h) (Or.inl ⟨by rfl,?_⟩) ?_ ?_
     rotate_left
     ·intro w'
      go_simp
      with_reducible rfl
     rotate_left
     ·simp only [Act.put,List.setIfInBounds_toArray,List.set_cons_zero,List.set_cons_succ,i64_w,i32_w]
      rfl
     refine pure_ (i:=1) (N:=some 19) (v:=?_) (a':=?_) #[tT,tT,fF,fF,fF,fF,fF,fF,fF] rfl rfl (any_of HT_.out (by kernel_rfl)) (fun _ _ _ h=>h) (Or.inl ⟨by rfl,?_⟩) ?_ ?_
     rotate_left
     ·intro w'
      go_simp
      with_reducible rfl
     rotate_left
     ·simp only [Act.put,List.setIfInBounds_toArray,List.set_cons_zero,List.set_cons_succ,i64_w,i32_w]
      rfl
     refine pure_ (i:=2) (N:=some 20) (v:=?_) (a':=?_) #[tT,tT,tT,fF,fF,fF,fF,fF,fF] rfl rfl (any_of HT_.out (by kernel_rfl)) (fun _ _ _ h=>h) (Or.inl ⟨by rfl,?_⟩) ?_ ?_
     rotate_left
     ·intro w'
      go_simp
      with_reducible rfl
     rotate_left
     ·simp only [Act.put,List.setIfInBounds_toArray,List.set_cons_zero,List.set_cons_succ,i64_w,i32_w]
      rfl
     refine pure_ (i:=3) (N:=some 21) (v:=?_) (a':=?_) #[tT,tT,tT,tT,fF,fF,fF,fF,fF] rfl rfl (any_of HT_.out (by kernel_rfl)) (fun _ _ _ h=>h) (Or.inl ⟨by rfl,?_⟩) ?_ ?_
     rotate_left
     ·intro w'
      go_simp
      with_reducible rfl
     rotate_left
     ·simp only [Act.put,List.setIfInBounds_toArray,List.set_cons_zero,List.set_cons_succ,i64_w,i32_w]
      rfl
     refine pure_ (i:=4) (N:=some 22) (v:=?_) (a':=?_) #[tT,tT,tT,tT,tT,fF,fF,fF,fF] rfl rfl (any_of HT_.out (by kernel_rfl)) (fun _ _ _ h=>h) (Or.inl ⟨by rfl,?_⟩) ?_ ?_
     rotate_left
     ·intro w'
      go_simp
      with_reducible rfl
     rotate_left
     ·simp only [Act.put,List.setIfInBounds_toArray,List.set_cons_zero,List.set_cons_succ,i64_w,i32_w]
      rfl
     refine pure_ (i:=5) (N:=some 23) (v:=?_) (a':=?_) #[tT,tT,tT,tT,tT,tT,fF,fF,fF] rfl rfl (any_of HT_.out (by kernel_rfl)) (fun _ _ _ h=>h) (Or.inl ⟨by rfl,?_⟩) ?_ ?_
     rotate_left
     ·intro w'
      go_simp
      with_reducible rfl
     rotate_left
     ·simp only [Act.put,List.setIfInBounds_toArray,List.set_cons_zero,List.set_cons_succ,i64_w,i32_w]
      rfl
     refine pure_ (i:=6) (N:=some 24) (v:=?_) (a':=?_) #[tT,tT,tT,tT,tT,tT,tT,fF,fF] rfl rfl (any_of HT_.out (by kernel_rfl)) (fun _ _ _ h=>h) (Or.inl ⟨by rfl,?_⟩) ?_ ?_
     rotate_left
     ·intro w'
      go_simp
      with_reducible rfl
     rotate_left
     ·simp only [Act.put,List.setIfInBounds_toArray,List.set_cons_zero,List.set_cons_succ,i64_w,i32_w]
      rfl
     refine one_ (i:=7) (N:=some 7) #[tT,tT,tT,tT,tT,tT,tT,tT,fF] rfl rfl (one_of HT_.out (by kernel_rfl)) (by decide) (fun K hK=>?_)
     refine box_step ?hg (N:=7) ?hd (cs:=#[.int .i64 0,.int .i64 0]) (t:=77) ?hr ?_;(case hd=>rfl);(case hg=>rfl);(case hr=>first|(go_simp;done)|(go_simp;rfl))
     intro gb277 hg w25 hbox hb
     have n0_:=aK (qm_ (g:=gb275) (o:=.cells #[.int .i64 0,.int .i64 0] 77 (0,0)) (by (with_reducible repeat (first|refine qf_ ?_ _|refine qi_ ?_|refine qe_ ?_ _));exact BK275.out) hb)
     have n1_:=aK (qj_ (by repeat (first|(with_reducible first|exact HB.out|apply qb_|apply qa_|apply qc_|refine qh_ ?_ GE275.out)|exact HB.out)) hb)
     have n2_:=aK (hbox)
     have n3_:=aK ((by rw [hg];exact (qk_ (by repeat (first|(with_reducible first|exact HB.out|apply qb_|apply qa_|apply qc_|refine qh_ ?_ GE275.out)|exact HB.out))):w.heap.size≤gb277))
     have n4_:=aK ((by rw [hg];exact (qk_ (by repeat (first|(with_reducible first|exact HB.out|apply qb_|apply qa_|apply qc_|refine qh_ ?_ GE275.out)|exact HB.out))):w.heap.size≤gb277))
     have n5_:=aK ((by rw [hg];exact Nat.ne_of_lt (blk_lt (g:=gb275) (o:=.cells #[.int .i64 0,.int .i64 0] 77 (0,0)) (by (with_reducible repeat (first|refine qf_ ?_ _|refine qi_ ?_|refine qe_ ?_ _));exact BK275.out)):gb275 ≠ gb277))
     have n6_:=aK ((by rw [hg];exact Nat.ne_of_gt (blk_lt (g:=gb275) (o:=.cells #[.int .i64 0,.int .i64 0] 77 (0,0)) (by (with_reducible repeat (first|refine qf_ ?_ _|refine qi_ ?_|refine qe_ ?_ _));exact BK275.out)):gb277 ≠ gb275))
     clear BK275
     clear HB
     have BK275:=n0_
     have HB:=n1_
     have BK277:=n2_
     have GW277:=n3_
     have GE277:=n4_
     have NB275_277:=n5_
     have NB277_275:=n6_
     clear n0_ n1_ n2_ n3_ n4_ n5_ n6_
     clear hb hbox hg
     refine hK.out _ _ trivial (fun hHeld=>?_)
     clear hK K
     refine norm_ (a':=?_) ?_ ?_
     rotate_left
     ·show Act.put _ (some 7) _=_
      simp only [Act.put,List.setIfInBounds_toArray,List.set_cons_zero,List.set_cons_succ,i64_w,i32_w]
      rfl
     refine one_ (i:=8) (N:=none) #[tT,tT,tT,tT,tT,tT,tT,tT,tT] rfl rfl (one_of HT_.out (by kernel_rfl)) (by decide) (fun K hK=>?_)
     have hs26:w25.cell? ⟨gb277,0,none⟩=some (.int .i64 0):=(qg_ BK277.out 0).trans rfl
     have hfs26:=qd_ BK277.out 0
     have hns26_0:=NB275_277.out
     have hms26_0:=NB277_275.out
     have hs27:w25.cell? ⟨gb277,1,none⟩=some (.int .i64 0):=(qg_ BK277.out 1).trans rfl
     have hfs27:=qd_ BK277.out 1
     have hns27_0:=NB275_277.out
     have hms27_0:=NB277_275.out
     refine skip_ (w1:=?_) (by rfl) rfl ?_ ?_
     rotate_left
     ·go_simp
      rfl
     refine hK.out _ _ trivial (fun hHeld=>?_)
     clear hK K
     refine done_ (done_of HT_.out (by kernel_rfl)) ?_
     have hnb28:=NB277_275.out
     have hnc28:=NB275_277.out
     have hcz29_0:w25.cell? ⟨gb277,0,none⟩=some (.int .i64 0):=(qg_ BK277.out 0).trans rfl
     have hcz29_1:w25.cell? ⟨gb277,1,none⟩=some (.int .i64 0):=(qg_ BK277.out 1).trans rfl
     have hfz29_0:=qd_ BK277.out 0
     have hfz29_1:=qd_ BK277.out 1
     try go_wp2_with (first|((with_reducible refine qa1_ (f:=151) rfl ?_);refine goesL_ (some 26) rfl rfl Try.func151 (by kernel_rfl) rfl #[.agg #[.int .i64 (wrap64 (Int.tdiv a0 (wrap64 (-t276)))),.int .i64 (wrap64 (Int.tdiv a1 (wrap64 (-t276))))]] rfl (by (try simp only [List.map_toArray,List.map_cons,List.map_nil]);first|done|rfl|(simp only [List.length_drop,List.length_take];rfl)) ?_;(with_reducible refine (qv_.calls k (wrap64 (Int.tdiv a0 (wrap64 (-t276)))) (wrap64 (Int.tdiv a1 (wrap64 (-t276)))) false _ A9.out).mono ?_);rintro e w30 ⟨rfl,hb⟩;refine ⟨_,rfl,?_⟩;have n0_:=aK (qm_ (g:=gb275) (o:=.cells #[.int .i64 0,.int .i64 0] 77 (0,0)) (by (with_reducible repeat (first|refine qf_ ?_ _|refine qi_ ?_|refine qe_ ?_ _));refine qk1_ ?_ NB275_277.out _;(with_reducible repeat (first|refine qf_ ?_ _|refine qi_ ?_|refine qe_ ?_ _));refine qk1_ ?_ NB275_277.out _;(with_reducible repeat (first|refine qf_ ?_ _|refine qi_ ?_|refine qe_ ?_ _));exact BK275.out) hb);have n1_:=aK (qm_ (g:=gb277) (o:=.cells #[.int .i64 (wrap64 (Int.tdiv a0 (wrap64 (-t276)))),.int .i64 (wrap64 (Int.tdiv a1 (wrap64 (-t276))))] 77 (0,0)) (by (with_reducible repeat (first|refine qf_ ?_ _|refine qi_ ?_|refine qe_ ?_ _));refine qi1_ (cs:=#[.int .i64 (wrap64 (Int.tdiv a0 (wrap64 (-t276)))),.int .i64 0]) ?_ 1 _ rfl;(with_reducible repeat (first|refine qf_ ?_ _|refine qi_ ?_|refine qe_ ?_ _));refine qi1_ (cs:=#[.int .i64 0,.int .i64 0]) ?_ 0 _ rfl;(with_reducible repeat (first|refine qf_ ?_ _|refine qi_ ?_|refine qe_ ?_ _));exact BK277.out) hb);have n2_:=aK (qj_ (by repeat (first|(with_reducible first|exact HB.out|apply qb_|apply qa_|apply qc_|refine qh_ ?_ GE275.out|refine qh_ ?_ GE277.out)|exact HB.out)) hb);clear BK275;clear BK277;clear HB;have BK275:=n0_;have BK277:=n1_;have HB:=n2_;clear n0_ n1_ n2_;(try clear hb);(try clear hb2);(try clear hk);(try clear hi);have hcz31_0:w30.cell? ⟨gb275,0,none⟩=some (.int .i64 0):=(qg_ BK275.out 0).trans rfl;have hcz31_1:w30.cell? ⟨gb275,1,none⟩=some (.int .i64 0):=(qg_ BK275.out 1).trans rfl;have hfz31_0:=qd_ BK275.out 0;have hfz31_1:=qd_ BK275.out 1))
     refine bodyPost_ret (results_ct rfl _ _ gb275 77 #[.int .i64 0,.int .i64 0] (0,0) _ rfl (by (with_reducible repeat (first|refine qf_ ?_ _|refine qi_ ?_|refine qe_ ?_ _));refine qi1_ (cs:=#[.int .i64 0,.int .i64 0]) ?_ 1 _ rfl;(with_reducible repeat (first|refine qf_ ?_ _|refine qi_ ?_|refine qe_ ?_ _));refine qi1_ (cs:=#[.int .i64 0,.int .i64 0]) ?_ 0 _ rfl;(with_reducible repeat (first|refine qf_ ?_ _|refine qi_ ?_|refine qe_ ?_ _));exact BK275.out) Try.underlying77 rfl (by kernel_rfl)) rfl ?_
     exact ⟨by first|rfl|(simp [qo_,qn_] <;> rfl)|(simp [*,qo_,qn_] <;> rfl),by repeat (first|(with_reducible first|exact HB.out|apply qb_|apply qa_|apply qc_|refine qh_ ?_ GE275.out|refine qh_ ?_ GE277.out)|exact HB.out)⟩
  ·rw [if_neg c7] at H
   have c7b0:decide (a1 < 0)=false:=decide_eq_false c7
   clear c7
   by_cases c32:t276=0
   ·rw [if_pos c32] at H
    exact absurd H (by simp)
   ·rw [if_neg c32] at H
    have c32b0:(t276 == 0)=false:=beq_eq_false_iff_ne.mpr c32
    have c32b1:(t276 != 0)=true:=bne_iff_ne.mpr c32
    replace H:=Option.bind_eq_some_iff.mp H
    obtain ⟨t280,A330,H⟩:=H
    replace H:(if t280=true then (some (wrap64 (Int.tdiv a0 t276),wrap64 (Int.tdiv a1 t276),true)) else (some (0,0,false)))=some (r1,r2,r3):=H
    have A33:=aK A330
    clear A330
    by_cases c34:t280=true
    ·subst c34
     have H1:(some (wrap64 (Int.tdiv a0 t276),wrap64 (Int.tdiv a1 t276),true))=some (r1,r2,r3):=by rw [if_pos rfl] at H;exact H
     clear H
     have H:=H1
     clear H1
     simp only [Option.some.injEq,Prod.mk.injEq] at H
     obtain ⟨rfl,rfl,rfl⟩:=H
     go_enter Try.func177,Try.ntmps177
     try go_wp2_with (first|((with_reducible refine qu_ (N:=4) rfl ?_);refine qr_ ?hg (N:=4) ?hd (cs:=#[.int .i64 0,.int .i64 0]) (t:=77) ?hr ?_;(case hd=>rfl);(case hg=>rfl);(case hr=>first|(go_simp;done)|(go_simp;rfl));intro gb275 hg w35 hbox hb;have n0_:=aK (qj_ (by repeat (first|(with_reducible first|exact HB.out|apply qb_|apply qa_|apply qc_)|exact HB.out)) hb);have n1_:=aK (hbox);have n2_:=aK ((by rw [hg];exact (qk_ (by repeat (first|(with_reducible first|exact HB.out|apply qb_|apply qa_|apply qc_)|exact HB.out))):w.heap.size≤gb275));have n3_:=aK ((by rw [hg];exact (qk_ (by repeat (first|(with_reducible first|exact HB.out|apply qb_|apply qa_|apply qc_)|exact HB.out))):w.heap.size≤gb275));clear HB;have HB:=n0_;have BK275:=n1_;have GW275:=n2_;have GE275:=n3_;clear n0_ n1_ n2_ n3_;clear hb hbox hg)|((with_reducible refine qa1_ (f:=205) rfl ?_);refine goesL_ (some 13) rfl rfl Try.func205 (by kernel_rfl) rfl #[.int .i64 a0,.int .i64 a1] rfl (by (try simp only [List.map_toArray,List.map_cons,List.map_nil]);first|done|rfl|(simp only [List.length_drop,List.length_take];rfl)) ?_;(with_reducible refine (qg1_.calls k a0 a1 t276 _ A6.out).mono ?_);rintro e w36 ⟨rfl,hb⟩;refine ⟨_,rfl,?_⟩;have n0_:=aK (qm_ (g:=gb275) (o:=.cells #[.int .i64 0,.int .i64 0] 77 (0,0)) (by (with_reducible repeat (first|refine qf_ ?_ _|refine qi_ ?_|refine qe_ ?_ _));exact BK275.out) hb);have n1_:=aK (qj_ (by repeat (first|(with_reducible first|exact HB.out|apply qb_|apply qa_|apply qc_|refine qh_ ?_ GE275.out)|exact HB.out)) hb);clear BK275;clear HB;have BK275:=n0_;have HB:=n1_;clear n0_ n1_;(try clear hb);(try clear hb2);(try clear hk);(try clear hi)))
     have n0_:=aK (qi_ BK275.out)
     have n1_:=aK (qc_ HB.out)
     clear BK275
     clear HB
     have BK275:=n0_
     have HB:=n1_
     clear n0_ n1_
     refine start_ (n:=9) (S:=fun w'=>True) (ds:=[]) #[fF,fF,fF,fF,fF,fF,fF,fF,fF] (by kernel_rfl) rfl rfl trivial (fun hHeld=>?_);refine with_tabW qh1_.tab6 qh1_.bits6 (fun HT_ HW_=>?_)
     generalize w36.drew=w37 at BK275 HB hHeld ⊢
     refine pure_ (i:=0) (N:=some 18) (v:=?_) (a':=?_) #[tT,fF,fF,fF,fF,fF,fF,fF,fF] rfl rfl (any_of HT_.out (by kernel_rfl)) (fun _ _ _ h=>h) (Or.inl ⟨by rfl,?_⟩) ?_ ?_
     rotate_left
     ·intro w'
      go_simp
      with_reducible rfl
     rotate_left
     ·simp only [Act.put,List.setIfInBounds_toArray,List.set_cons_zero,List.set_cons_succ,i64_w,i32_w]
      rfl
     refine pure_ (i:=1) (N:=some 19) (v:=?_) (a':=?_) #[tT,tT,fF,fF,fF,fF,fF,fF,fF] rfl rfl (any_of HT_.out (by kernel_rfl)) (fun _ _ _ h=>h) (Or.inl ⟨by rfl,?_⟩) ?_ ?_
     rotate_left
     ·intro w'
      go_simp
      with_reducible rfl
     rotate_left
     ·simp only [Act.put,List.setIfInBounds_toArray,List.set_cons_zero,List.set_cons_succ,i64_w,i32_w]
      rfl
     refine pure_ (i:=2) (N:=some 20) (v:=?_) (a':=?_) #[tT,tT,tT,fF,fF,fF,fF,fF,fF] rfl rfl (any_of HT_.out (by kernel_rfl)) (fun _ _ _ h=>h) (Or.inl ⟨by rfl,?_⟩) ?_ ?_
     rotate_left
     ·intro w'
      go_simp
      with_reducible rfl
     rotate_left
     ·simp only [Act.put,List.setIfInBounds_toArray,List.set_cons_zero,List.set_cons_succ,i64_w,i32_w]
      rfl
     refine pure_ (i:=3) (N:=some 21) (v:=?_) (a':=?_) #[tT,tT,tT,tT,fF,fF,fF,fF,fF] rfl rfl (any_of HT_.out (by kernel_rfl)) (fun _ _ _ h=>h) (Or.inl ⟨by rfl,?_⟩) ?_ ?_
     rotate_left
     ·intro w'
      go_simp
      with_reducible rfl
     rotate_left
     ·simp only [Act.put,List.setIfInBounds_toArray,List.set_cons_zero,List.set_cons_succ,i64_w,i32_w]
      rfl
     refine pure_ (i:=4) (N:=some 22) (v:=?_) (a':=?_) #[tT,tT,tT,tT,tT,fF,fF,fF,fF] rfl rfl (any_of HT_.out (by kernel_rfl)) (fun _ _ _ h=>h) (Or.inl ⟨by rfl,?_⟩) ?_ ?_
     rotate_left
     ·intro w'
      go_simp
      with_reducible rfl
     rotate_left
     ·simp only [Act.put,List.setIfInBounds_toArray,List.set_cons_zero,List.set_cons_succ,i64_w,i32_w]
      rfl
     refine pure_ (i:=5) (N:=some 23) (v:=?_) (a':=?_) #[tT,tT,tT,tT,tT,tT,fF,fF,fF] rfl rfl (any_of HT_.out (by kernel_rfl)) (fun _ _ _ h=>h) (Or.inl ⟨by rfl,?_⟩) ?_ ?_
     rotate_left
     ·intro w'
      go_simp
      with_reducible rfl
     rotate_left
     ·simp only [Act.put,List.setIfInBounds_toArray,List.set_cons_zero,List.set_cons_succ,i64_w,i32_w]
      rfl
     refine pure_ (i:=6) (N:=some 24) (v:=?_) (a':=?_) #[tT,tT,tT,tT,tT,tT,tT,fF,fF] rfl rfl (any_of HT_.out (by kernel_rfl)) (fun _ _ _ h=>h) (Or.inl ⟨by rfl,?_⟩) ?_ ?_
     rotate_left
     ·intro w'
      go_simp
      with_reducible rfl
     rotate_left
     ·simp only [Act.put,List.setIfInBounds_toArray,List.set_cons_zero,List.set_cons_succ,i64_w,i32_w]
      rfl
     refine one_ (i:=7) (N:=some 7) #[tT,tT,tT,tT,tT,tT,tT,tT,fF] rfl rfl (one_of HT_.out (by kernel_rfl)) (by decide) (fun K hK=>?_)
     refine box_step ?hg (N:=7) ?hd (cs:=#[.int .i64 0,.int .i64 0]) (t:=77) ?hr ?_;(case hd=>rfl);(case hg=>rfl);(case hr=>first|(go_simp;done)|(go_simp;rfl))
     intro gb279 hg w38 hbox hb
     have n0_:=aK (qm_ (g:=gb275) (o:=.cells #[.int .i64 0,.int .i64 0] 77 (0,0)) (by (with_reducible repeat (first|refine qf_ ?_ _|refine qi_ ?_|refine qe_ ?_ _));exact BK275.out) hb)
     have n1_:=aK (qj_ (by repeat (first|(with_reducible first|exact HB.out|apply qb_|apply qa_|apply qc_|refine qh_ ?_ GE275.out)|exact HB.out)) hb)
     have n2_:=aK (hbox)
     have n3_:=aK ((by rw [hg];exact (qk_ (by repeat (first|(with_reducible first|exact HB.out|apply qb_|apply qa_|apply qc_|refine qh_ ?_ GE275.out)|exact HB.out))):w.heap.size≤gb279))
     have n4_:=aK ((by rw [hg];exact (qk_ (by repeat (first|(with_reducible first|exact HB.out|apply qb_|apply qa_|apply qc_|refine qh_ ?_ GE275.out)|exact HB.out))):w.heap.size≤gb279))
     have n5_:=aK ((by rw [hg];exact Nat.ne_of_lt (blk_lt (g:=gb275) (o:=.cells #[.int .i64 0,.int .i64 0] 77 (0,0)) (by (with_reducible repeat (first|refine qf_ ?_ _|refine qi_ ?_|refine qe_ ?_ _));exact BK275.out)):gb275 ≠ gb279))
     have n6_:=aK ((by rw [hg];exact Nat.ne_of_gt (blk_lt (g:=gb275) (o:=.cells #[.int .i64 0,.int .i64 0] 77 (0,0)) (by (with_reducible repeat (first|refine qf_ ?_ _|refine qi_ ?_|refine qe_ ?_ _));exact BK275.out)):gb279 ≠ gb275))
     clear BK275
     clear HB
     have BK275:=n0_
     have HB:=n1_
     have BK279:=n2_
     have GW279:=n3_
     have GE279:=n4_
     have NB275_279:=n5_
     have NB279_275:=n6_
     clear n0_ n1_ n2_ n3_ n4_ n5_ n6_
     clear hb hbox hg
     refine hK.out _ _ trivial (fun hHeld=>?_)
     clear hK K
     refine norm_ (a':=?_) ?_ ?_
     rotate_left
     ·show Act.put _ (some 7) _=_
      simp only [Act.put,List.setIfInBounds_toArray,List.set_cons_zero,List.set_cons_succ,i64_w,i32_w]
      rfl
     refine one_ (i:=8) (N:=none) #[tT,tT,tT,tT,tT,tT,tT,tT,tT] rfl rfl (one_of HT_.out (by kernel_rfl)) (by decide) (fun K hK=>?_)
     have hs39:w38.cell? ⟨gb279,0,none⟩=some (.int .i64 0):=(qg_ BK279.out 0).trans rfl
     have hfs39:=qd_ BK279.out 0
     have hns39_0:=NB275_279.out
     have hms39_0:=NB279_275.out
     have hs40:w38.cell? ⟨gb279,1,none⟩=some (.int .i64 0):=(qg_ BK279.out 1).trans rfl
     have hfs40:=qd_ BK279.out 1
     have hns40_0:=NB275_279.out
     have hms40_0:=NB279_275.out
     refine skip_ (w1:=?_) (by rfl) rfl ?_ ?_
     rotate_left
     ·go_simp
      rfl
     refine hK.out _ _ trivial (fun hHeld=>?_)
     clear hK K
     refine done_ (done_of HT_.out (by kernel_rfl)) ?_
     have hnb41:=NB279_275.out
     have hnc41:=NB275_279.out
     have hcz42_0:w38.cell? ⟨gb279,0,none⟩=some (.int .i64 0):=(qg_ BK279.out 0).trans rfl
     have hcz42_1:w38.cell? ⟨gb279,1,none⟩=some (.int .i64 0):=(qg_ BK279.out 1).trans rfl
     have hfz42_0:=qd_ BK279.out 0
     have hfz42_1:=qd_ BK279.out 1
     try go_wp2_with (first|((with_reducible refine qa1_ (f:=151) rfl ?_);refine goesL_ (some 26) rfl rfl Try.func151 (by kernel_rfl) rfl #[.agg #[.int .i64 (wrap64 (Int.tdiv a0 t276)),.int .i64 (wrap64 (Int.tdiv a1 t276))]] rfl (by (try simp only [List.map_toArray,List.map_cons,List.map_nil]);first|done|rfl|(simp only [List.length_drop,List.length_take];rfl)) ?_;(with_reducible refine (qv_.calls k (wrap64 (Int.tdiv a0 t276)) (wrap64 (Int.tdiv a1 t276)) true _ A33.out).mono ?_);rintro e w43 ⟨rfl,hb⟩;refine ⟨_,rfl,?_⟩;have n0_:=aK (qm_ (g:=gb275) (o:=.cells #[.int .i64 0,.int .i64 0] 77 (0,0)) (by (with_reducible repeat (first|refine qf_ ?_ _|refine qi_ ?_|refine qe_ ?_ _));refine qk1_ ?_ NB275_279.out _;(with_reducible repeat (first|refine qf_ ?_ _|refine qi_ ?_|refine qe_ ?_ _));refine qk1_ ?_ NB275_279.out _;(with_reducible repeat (first|refine qf_ ?_ _|refine qi_ ?_|refine qe_ ?_ _));exact BK275.out) hb);have n1_:=aK (qm_ (g:=gb279) (o:=.cells #[.int .i64 (wrap64 (Int.tdiv a0 t276)),.int .i64 (wrap64 (Int.tdiv a1 t276))] 77 (0,0)) (by (with_reducible repeat (first|refine qf_ ?_ _|refine qi_ ?_|refine qe_ ?_ _));refine qi1_ (cs:=#[.int .i64 (wrap64 (Int.tdiv a0 t276)),.int .i64 0]) ?_ 1 _ rfl;(with_reducible repeat (first|refine qf_ ?_ _|refine qi_ ?_|refine qe_ ?_ _));refine qi1_ (cs:=#[.int .i64 0,.int .i64 0]) ?_ 0 _ rfl;(with_reducible repeat (first|refine qf_ ?_ _|refine qi_ ?_|refine qe_ ?_ _));exact BK279.out) hb);have n2_:=aK (qj_ (by repeat (first|(with_reducible first|exact HB.out|apply qb_|apply qa_|apply qc_|refine qh_ ?_ GE275.out|refine qh_ ?_ GE279.out)|exact HB.out)) hb);clear BK275;clear BK279;clear HB;have BK275:=n0_;have BK279:=n1_;have HB:=n2_;clear n0_ n1_ n2_;(try clear hb);(try clear hb2);(try clear hk);(try clear hi);have hcz44_0:w43.cell? ⟨gb279,0,none⟩=some (.int .i64 (wrap64 (Int.tdiv a0 t276))):=(qg_ BK279.out 0).trans rfl;have hcz44_1:w43.cell? ⟨gb279,1,none⟩=some (.int .i64 (wrap64 (Int.tdiv a1 t276))):=(qg_ BK279.out 1).trans rfl;have hfz44_0:=qd_ BK279.out 0;have hfz44_1:=qd_ BK279.out 1;have hcz45_0:w43.cell? ⟨gb275,0,none⟩=some (.int .i64 0):=(qg_ BK275.out 0).trans rfl;have hcz45_1:w43.cell? ⟨gb275,1,none⟩=some (.int .i64 0):=(qg_ BK275.out 1).trans rfl;have hfz45_0:=qd_ BK275.out 0;have hfz45_1:=qd_ BK275.out 1))
     refine bodyPost_ret (results_ct rfl _ _ gb275 77 #[.int .i64 (wrap64 (Int.tdiv a0 t276)),.int .i64 (wrap64 (Int.tdiv a1 t276))] (0,0) _ rfl (by (with_reducible repeat (first|refine qf_ ?_ _|refine qi_ ?_|refine qe_ ?_ _));refine qi1_ (cs:=#[.int .i64 (wrap64 (Int.tdiv a0 t276)),.int .i64 0]) ?_ 1 _ rfl;(with_reducible repeat (first|refine qf_ ?_ _|refine qi_ ?_|refine qe_ ?_ _));refine qi1_ (cs:=#[.int .i64 0,.int .i64 0]) ?_ 0 _ rfl;(with_reducible repeat (first|refine qf_ ?_ _|refine qi_ ?_|refine qe_ ?_ _));exact BK275.out) Try.underlying77 rfl (by kernel_rfl)) rfl ?_
     exact ⟨by first|rfl|(simp [qo_,qn_] <;> rfl)|(simp [*,qo_,qn_] <;> rfl),by repeat (first|(with_reducible first|exact HB.out|apply qb_|apply qa_|apply qc_|refine qh_ ?_ GE275.out|refine qh_ ?_ GE279.out)|exact HB.out)⟩
    ·replace c34:=Bool.eq_false_iff.mpr c34
     subst c34
     have H1:(some (0,0,false))=some (r1,r2,r3):=by rw [if_neg (show ¬ (false=true) by decide)] at H;exact H
     clear H
     have H:=H1
     clear H1
     simp only [Option.some.injEq,Prod.mk.injEq] at H
     obtain ⟨rfl,rfl,rfl⟩:=H
     go_enter Try.func177,Try.ntmps177
     try go_wp2_with (first|((with_reducible refine qu_ (N:=4) rfl ?_);refine qr_ ?hg (N:=4) ?hd (cs:=#[.int .i64 0,.int .i64 0]) (t:=77) ?hr ?_;(case hd=>rfl);(case hg=>rfl);(case hr=>first|(go_simp;done)|(go_simp;rfl));intro gb275 hg w46 hbox hb;have n0_:=aK (qj_ (by repeat (first|(with_reducible first|exact HB.out|apply qb_|apply qa_|apply qc_)|exact HB.out)) hb);have n1_:=aK (hbox);have n2_:=aK ((by rw [hg];exact (qk_ (by repeat (first|(with_reducible first|exact HB.out|apply qb_|apply qa_|apply qc_)|exact HB.out))):w.heap.size≤gb275));have n3_:=aK ((by rw [hg];exact (qk_ (by repeat (first|(with_reducible first|exact HB.out|apply qb_|apply qa_|apply qc_)|exact HB.out))):w.heap.size≤gb275));clear HB;have HB:=n0_;have BK275:=n1_;have GW275:=n2_;have GE275:=n3_;clear n0_ n1_ n2_ n3_;clear hb hbox hg)|((with_reducible refine qa1_ (f:=205) rfl ?_);refine goesL_ (some 13) rfl rfl Try.func205 (by kernel_rfl) rfl #[.int .i64 a0,.int .i64 a1] rfl (by (try simp only [List.map_toArray,List.map_cons,List.map_nil]);first|done|rfl|(simp only [List.length_drop,List.length_take];rfl)) ?_;(with_reducible refine (qg1_.calls k a0 a1 t276 _ A6.out).mono ?_);rintro e w47 ⟨rfl,hb⟩;refine ⟨_,rfl,?_⟩;have n0_:=aK (qm_ (g:=gb275) (o:=.cells #[.int .i64 0,.int .i64 0] 77 (0,0)) (by (with_reducible repeat (first|refine qf_ ?_ _|refine qi_ ?_|refine qe_ ?_ _));exact BK275.out) hb);have n1_:=aK (qj_ (by repeat (first|(with_reducible first|exact HB.out|apply qb_|apply qa_|apply qc_|refine qh_ ?_ GE275.out)|exact HB.out)) hb);clear BK275;clear HB;have BK275:=n0_;have HB:=n1_;clear n0_ n1_;(try clear hb);(try clear hb2);(try clear hk);(try clear hi)))
     have n0_:=aK (qi_ BK275.out)
     have n1_:=aK (qc_ HB.out)
     clear BK275
     clear HB
     have BK275:=n0_
     have HB:=n1_
     clear n0_ n1_
     refine start_ (n:=9) (S:=fun w'=>True) (ds:=[]) #[fF,fF,fF,fF,fF,fF,fF,fF,fF] (by kernel_rfl) rfl rfl trivial (fun hHeld=>?_);refine with_tabW qh1_.tab6 qh1_.bits6 (fun HT_ HW_=>?_)
     generalize w47.drew=w48 at BK275 HB hHeld ⊢
     refine pure_ (i:=0) (N:=some 18) (v:=?_) (a':=?_) #[tT,fF,fF,fF,fF,fF,fF,fF,fF] rfl rfl (any_of HT_.out (by kernel_rfl)) (fun _ _ _ h=>h) (Or.inl ⟨by rfl,?_⟩) ?_ ?_
     rotate_left
     ·intro w'
      go_simp
      with_reducible rfl
     rotate_left
     ·simp only [Act.put,List.setIfInBounds_toArray,List.set_cons_zero,List.set_cons_succ,i64_w,i32_w]
      rfl
     refine pure_ (i:=1) (N:=some 19) (v:=?_) (a':=?_) #[tT,tT,fF,fF,fF,fF,fF,fF,fF] rfl rfl (any_of HT_.out (by kernel_rfl)) (fun _ _ _ h=>h) (Or.inl ⟨by rfl,?_⟩) ?_ ?_
     rotate_left
     ·intro w'
      go_simp
      with_reducible rfl
     rotate_left
     ·simp only [Act.put,List.setIfInBounds_toArray,List.set_cons_zero,List.set_cons_succ,i64_w,i32_w]
      rfl
     refine pure_ (i:=2) (N:=some 20) (v:=?_) (a':=?_) #[tT,tT,tT,fF,fF,fF,fF,fF,fF] rfl rfl (any_of HT_.out (by kernel_rfl)) (fun _ _ _ h=>h) (Or.inl ⟨by rfl,?_⟩) ?_ ?_
     rotate_left
     ·intro w'
      go_simp
      with_reducible rfl
     rotate_left
     ·simp only [Act.put,List.setIfInBounds_toArray,List.set_cons_zero,List.set_cons_succ,i64_w,i32_w]
      rfl
     refine pure_ (i:=3) (N:=some 21) (v:=?_) (a':=?_) #[tT,tT,tT,tT,fF,fF,fF,fF,fF] rfl rfl (any_of HT_.out (by kernel_rfl)) (fun _ _ _ h=>h) (Or.inl ⟨by rfl,?_⟩) ?_ ?_
     rotate_left
     ·intro w'
      go_simp
      with_reducible rfl
     rotate_left
     ·simp only [Act.put,List.setIfInBounds_toArray,List.set_cons_zero,List.set_cons_succ,i64_w,i32_w]
      rfl
     refine pure_ (i:=4) (N:=some 22) (v:=?_) (a':=?_) #[tT,tT,tT,tT,tT,fF,fF,fF,fF] rfl rfl (any_of HT_.out (by kernel_rfl)) (fun _ _ _ h=>h) (Or.inl ⟨by rfl,?_⟩) ?_ ?_
     rotate_left
     ·intro w'
      go_simp
      with_reducible rfl
     rotate_left
     ·simp only [Act.put,List.setIfInBounds_toArray,List.set_cons_zero,List.set_cons_succ,i64_w,i32_w]
      rfl
     refine pure_ (i:=5) (N:=some 23) (v:=?_) (a':=?_) #[tT,tT,tT,tT,tT,tT,fF,fF,fF] rfl rfl (any_of HT_.out (by kernel_rfl)) (fun _ _ _ h=>h) (Or.inl ⟨by rfl,?_⟩) ?_ ?_
     rotate_left
     ·intro w'
      go_simp
      with_reducible rfl
     rotate_left
     ·simp only [Act.put,List.setIfInBounds_toArray,List.set_cons_zero,List.set_cons_succ,i64_w,i32_w]
      rfl
     refine pure_ (i:=6) (N:=some 24) (v:=?_) (a':=?_) #[tT,tT,tT,tT,tT,tT,tT,fF,fF] rfl rfl (any_of HT_.out (by kernel_rfl)) (fun _ _ _ h=>h) (Or.inl ⟨by rfl,?_⟩) ?_ ?_
     rotate_left
     ·intro w'
      go_simp
      with_reducible rfl
     rotate_left
     ·simp only [Act.put,List.setIfInBounds_toArray,List.set_cons_zero,List.set_cons_succ,i64_w,i32_w]
      rfl
     refine one_ (i:=7) (N:=some 7) #[tT,tT,tT,tT,tT,tT,tT,tT,fF] rfl rfl (one_of HT_.out (by kernel_rfl)) (by decide) (fun K hK=>?_)
     refine box_step ?hg (N:=7) ?hd (cs:=#[.int .i64 0,.int .i64 0]) (t:=77) ?hr ?_;(case hd=>rfl);(case hg=>rfl);(case hr=>first|(go_simp;done)|(go_simp;rfl))
     intro gb279 hg w49 hbox hb
     have n0_:=aK (qm_ (g:=gb275) (o:=.cells #[.int .i64 0,.int .i64 0] 77 (0,0)) (by (with_reducible repeat (first|refine qf_ ?_ _|refine qi_ ?_|refine qe_ ?_ _));exact BK275.out) hb)
     have n1_:=aK (qj_ (by repeat (first|(with_reducible first|exact HB.out|apply qb_|apply qa_|apply qc_|refine qh_ ?_ GE275.out)|exact HB.out)) hb)
     have n2_:=aK (hbox)
     have n3_:=aK ((by rw [hg];exact (qk_ (by repeat (first|(with_reducible first|exact HB.out|apply qb_|apply qa_|apply qc_|refine qh_ ?_ GE275.out)|exact HB.out))):w.heap.size≤gb279))
     have n4_:=aK ((by rw [hg];exact (qk_ (by repeat (first|(with_reducible first|exact HB.out|apply qb_|apply qa_|apply qc_|refine qh_ ?_ GE275.out)|exact HB.out))):w.heap.size≤gb279))
     have n5_:=aK ((by rw [hg];exact Nat.ne_of_lt (blk_lt (g:=gb275) (o:=.cells #[.int .i64 0,.int .i64 0] 77 (0,0)) (by (with_reducible repeat (first|refine qf_ ?_ _|refine qi_ ?_|refine qe_ ?_ _));exact BK275.out)):gb275 ≠ gb279))
     have n6_:=aK ((by rw [hg];exact Nat.ne_of_gt (blk_lt (g:=gb275) (o:=.cells #[.int .i64 0,.int .i64 0] 77 (0,0)) (by (with_reducible repeat (first|refine qf_ ?_ _|refine qi_ ?_|refine qe_ ?_ _));exact BK275.out)):gb279 ≠ gb275))
     clear BK275
     clear HB
     have BK275:=n0_
     have HB:=n1_
     have BK279:=n2_
     have GW279:=n3_
     have GE279:=n4_
     have NB275_279:=n5_
     have NB279_275:=n6_
     clear n0_ n1_ n2_ n3_ n4_ n5_ n6_
     clear hb hbox hg
     refine hK.out _ _ trivial (fun hHeld=>?_)
     clear hK K
     refine norm_ (a':=?_) ?_ ?_
     rotate_left
     ·show Act.put _ (some 7) _=_
      simp only [Act.put,List.setIfInBounds_toArray,List.set_cons_zero,List.set_cons_succ,i64_w,i32_w]
      rfl
     refine one_ (i:=8) (N:=none) #[tT,tT,tT,tT,tT,tT,tT,tT,tT] rfl rfl (one_of HT_.out (by kernel_rfl)) (by decide) (fun K hK=>?_)
     have hs50:w49.cell? ⟨gb279,0,none⟩=some (.int .i64 0):=(qg_ BK279.out 0).trans rfl
     have hfs50:=qd_ BK279.out 0
     have hns50_0:=NB275_279.out
     have hms50_0:=NB279_275.out
     have hs51:w49.cell? ⟨gb279,1,none⟩=some (.int .i64 0):=(qg_ BK279.out 1).trans rfl
     have hfs51:=qd_ BK279.out 1
     have hns51_0:=NB275_279.out
     have hms51_0:=NB279_275.out
     refine skip_ (w1:=?_) (by rfl) rfl ?_ ?_
     rotate_left
     ·go_simp
      rfl
     refine hK.out _ _ trivial (fun hHeld=>?_)
     clear hK K
     refine done_ (done_of HT_.out (by kernel_rfl)) ?_
     have hnb52:=NB279_275.out
     have hnc52:=NB275_279.out
     have hcz53_0:w49.cell? ⟨gb279,0,none⟩=some (.int .i64 0):=(qg_ BK279.out 0).trans rfl
     have hcz53_1:w49.cell? ⟨gb279,1,none⟩=some (.int .i64 0):=(qg_ BK279.out 1).trans rfl
     have hfz53_0:=qd_ BK279.out 0
     have hfz53_1:=qd_ BK279.out 1
     try go_wp2_with (first|((with_reducible refine qa1_ (f:=151) rfl ?_);refine goesL_ (some 26) rfl rfl Try.func151 (by kernel_rfl) rfl #[.agg #[.int .i64 (wrap64 (Int.tdiv a0 t276)),.int .i64 (wrap64 (Int.tdiv a1 t276))]] rfl (by (try simp only [List.map_toArray,List.map_cons,List.map_nil]);first|done|rfl|(simp only [List.length_drop,List.length_take];rfl)) ?_;(with_reducible refine (qv_.calls k (wrap64 (Int.tdiv a0 t276)) (wrap64 (Int.tdiv a1 t276)) false _ A33.out).mono ?_);rintro e w54 ⟨rfl,hb⟩;refine ⟨_,rfl,?_⟩;have n0_:=aK (qm_ (g:=gb275) (o:=.cells #[.int .i64 0,.int .i64 0] 77 (0,0)) (by (with_reducible repeat (first|refine qf_ ?_ _|refine qi_ ?_|refine qe_ ?_ _));refine qk1_ ?_ NB275_279.out _;(with_reducible repeat (first|refine qf_ ?_ _|refine qi_ ?_|refine qe_ ?_ _));refine qk1_ ?_ NB275_279.out _;(with_reducible repeat (first|refine qf_ ?_ _|refine qi_ ?_|refine qe_ ?_ _));exact BK275.out) hb);have n1_:=aK (qm_ (g:=gb279) (o:=.cells #[.int .i64 (wrap64 (Int.tdiv a0 t276)),.int .i64 (wrap64 (Int.tdiv a1 t276))] 77 (0,0)) (by (with_reducible repeat (first|refine qf_ ?_ _|refine qi_ ?_|refine qe_ ?_ _));refine qi1_ (cs:=#[.int .i64 (wrap64 (Int.tdiv a0 t276)),.int .i64 0]) ?_ 1 _ rfl;(with_reducible repeat (first|refine qf_ ?_ _|refine qi_ ?_|refine qe_ ?_ _));refine qi1_ (cs:=#[.int .i64 0,.int .i64 0]) ?_ 0 _ rfl;(with_reducible repeat (first|refine qf_ ?_ _|refine qi_ ?_|refine qe_ ?_ _));exact BK279.out) hb);have n2_:=aK (qj_ (by repeat (first|(with_reducible first|exact HB.out|apply qb_|apply qa_|apply qc_|refine qh_ ?_ GE275.out|refine qh_ ?_ GE279.out)|exact HB.out)) hb);clear BK275;clear BK279;clear HB;have BK275:=n0_;have BK279:=n1_;have HB:=n2_;clear n0_ n1_ n2_;(try clear hb);(try clear hb2);(try clear hk);(try clear hi);have hcz55_0:w54.cell? ⟨gb275,0,none⟩=some (.int .i64 0):=(qg_ BK275.out 0).trans rfl;have hcz55_1:w54.cell? ⟨gb275,1,none⟩=some (.int .i64 0):=(qg_ BK275.out 1).trans rfl;have hfz55_0:=qd_ BK275.out 0;have hfz55_1:=qd_ BK275.out 1))
     refine bodyPost_ret (results_ct rfl _ _ gb275 77 #[.int .i64 0,.int .i64 0] (0,0) _ rfl (by (with_reducible repeat (first|refine qf_ ?_ _|refine qi_ ?_|refine qe_ ?_ _));refine qi1_ (cs:=#[.int .i64 0,.int .i64 0]) ?_ 1 _ rfl;(with_reducible repeat (first|refine qf_ ?_ _|refine qi_ ?_|refine qe_ ?_ _));refine qi1_ (cs:=#[.int .i64 0,.int .i64 0]) ?_ 0 _ rfl;(with_reducible repeat (first|refine qf_ ?_ _|refine qi_ ?_|refine qe_ ?_ _));exact BK275.out) Try.underlying77 rfl (by kernel_rfl)) rfl ?_
     exact ⟨by first|rfl|(simp [qo_,qn_] <;> rfl)|(simp [*,qo_,qn_] <;> rfl),by repeat (first|(with_reducible first|exact HB.out|apply qb_|apply qa_|apply qc_|refine qh_ ?_ GE275.out|refine qh_ ?_ GE279.out)|exact HB.out)⟩
end Go.Proofs.Ytaiefdhenikiiaa.Base
namespace Go.Proofs.Ytaiefdhenikiiaa.Base
open Go.RowKit Go.Proofs.YtaiefdhenikiiaaW.PrintWords Go.Proofs.YtaiefdhenikiiaaW.PrintLast Go.Proofs.YtaiefdhenikiiaaW.PrintMore
attribute [local go_sem] max2_int qo1_ max_two min_two max_three min_three max_four min_four Go.Proofs.YtaiefdhenikiiaaZ.qx_   -- for this text's walks alone
set_option linter.unusedVariables false
set_option linter.unusedSimpArgs false
def qq2_.f (k:Nat) (a0_0:Int) (a0_1:Int) (a1_0:Int) (a1_1:Int):Option (Int × Int × Bool):=(qh1_.f k (wrap64 ((wrap64 (a0_0 * a1_1))+(wrap64 (a1_0 * a0_1)))) (wrap64 (a0_1 * a1_1))).bind fun bt284=>(some (bt284.1,bt284.2.1,bt284.2.2))
theorem qq2_.mono:∀ a0 a1 a2 a3 k,LeO (qq2_.f k a0 a1 a2 a3) (qq2_.f (k+1) a0 a1 a2 a3):=by
 intro a0 a1 a2 a3 k
 unfold qq2_.f
 repeat' first
   | (with_reducible exact qh1_.mono _ _ _)
   | (with_reducible exact LeO.refl _)
   | (with_reducible exact LeO.none _)
   | (with_reducible refine LeO.ite ?_ ?_)
   | (with_reducible refine LeO.bind ?_ (fun _=>?_))
   | exact qh1_.mono _ _ _
   | exact LeO.none _
   | refine LeO.ite ?_ ?_
   | refine LeO.bind ?_ (fun _=>?_)
set_option maxHeartbeats 8000000 in
set_option maxRecDepth 100000 in
theorem qq2_.calls (k:Nat) (a0_0:Int) (a0_1:Int) (a1_0:Int) (a1_1:Int) (r1:Int) (r2:Int) (r3:Bool) (w:World) (h:qq2_.f k a0_0 a0_1 a1_0 a1_1=some (r1,r2,r3)) :
  Calls Try.prog 187 #[.agg #[.int .i64 a0_0,.int .i64 a0_1],.agg #[.int .i64 a1_0,.int .i64 a1_1]] w fun e w'=>e=.returned (.tuple #[.agg #[.int .i64 r1,.int .i64 r2],.bool r3])∧Below w.heap.size w w':=by
 have hu77:=Try.underlying77
 have HB:=aK (Below.refl w.heap.size w)
 have H:((qh1_.f k (wrap64 ((wrap64 (a0_0 * a1_1))+(wrap64 (a1_0 * a0_1)))) (wrap64 (a0_1 * a1_1))).bind fun bt284=>(some (bt284.1,bt284.2.1,bt284.2.2)))=some (r1,r2,r3):=h
 clear h
 replace H:=Option.bind_eq_some_iff.mp H
 obtain ⟨⟨t284,t285,t286⟩,A30,H⟩:=H
 replace H:(some (t284,t285,t286))=some (r1,r2,r3):=H
 have A3:=aK A30
 clear A30
 simp only [Option.some.injEq,Prod.mk.injEq] at H
 obtain ⟨rfl,rfl,rfl⟩:=H
 go_enter Try.func187,Try.ntmps187
 go_wp2_with (first|((with_reducible refine qu_ (N:=2) rfl ?_);refine qr_ ?hg (N:=2) ?hd (cs:=#[.int .i64 a0_0,.int .i64 a0_1]) (t:=77) ?hr ?_;(case hd=>rfl);(case hg=>rfl);(case hr=>first|(go_simp;done)|(go_simp;rfl));intro gb281 hg w4 hbox hb;have n0_:=aK (qj_ (by repeat (first|(with_reducible first|exact HB.out|apply qb_|apply qa_|apply qc_)|exact HB.out)) hb);have n1_:=aK (hbox);have n2_:=aK ((by rw [hg];exact (qk_ (by repeat (first|(with_reducible first|exact HB.out|apply qb_|apply qa_|apply qc_)|exact HB.out))):w.heap.size≤gb281));have n3_:=aK ((by rw [hg];exact (qk_ (by repeat (first|(with_reducible first|exact HB.out|apply qb_|apply qa_|apply qc_)|exact HB.out))):w.heap.size≤gb281));clear HB;have HB:=n0_;have BK281:=n1_;have GW281:=n2_;have GE281:=n3_;clear n0_ n1_ n2_ n3_;clear hb hbox hg)|((with_reducible refine qu_ (N:=3) rfl ?_);refine qr_ ?hg (N:=3) ?hd (cs:=#[.int .i64 a1_0,.int .i64 a1_1]) (t:=77) ?hr ?_;(case hd=>rfl);(case hg=>rfl);(case hr=>first|(go_simp;done)|(go_simp;rfl));intro gb282 hg w5 hbox hb;have n0_:=aK (qm_ (g:=gb281) (o:=.cells #[.int .i64 a0_0,.int .i64 a0_1] 77 (0,0)) (by (with_reducible repeat (first|refine qf_ ?_ _|refine qi_ ?_|refine qe_ ?_ _));exact BK281.out) hb);have n1_:=aK (qj_ (by repeat (first|(with_reducible first|exact HB.out|apply qb_|apply qa_|apply qc_|refine qh_ ?_ GE281.out)|exact HB.out)) hb);have n2_:=aK (hbox);have n3_:=aK ((by rw [hg];exact (qk_ (by repeat (first|(with_reducible first|exact HB.out|apply qb_|apply qa_|apply qc_|refine qh_ ?_ GE281.out)|exact HB.out))):w.heap.size≤gb282));have n4_:=aK ((by rw [hg];exact (qk_ (by repeat (first|(with_reducible first|exact HB.out|apply qb_|apply qa_|apply qc_|refine qh_ ?_ GE281.out)|exact HB.out))):w.heap.size≤gb282));have n5_:=aK ((by rw [hg];exact Nat.ne_of_lt (blk_lt (g:=gb281) (o:=.cells #[.int .i64 a0_0,.int .i64 a0_1] 77 (0,0)) (by (with_reducible repeat (first|refine qf_ ?_ _|refine qi_ ?_|refine qe_ ?_ _));exact BK281.out)):gb281 ≠ gb282));have n6_:=aK ((by rw [hg];exact Nat.ne_of_gt (blk_lt (g:=gb281) (o:=.cells #[.int .i64 a0_0,.int .i64 a0_1] 77 (0,0)) (by (with_reducible repeat (first|refine qf_ ?_ _|refine qi_ ?_|refine qe_ ?_ _));exact BK281.out)):gb282 ≠ gb281));clear BK281;clear HB;have BK281:=n0_;have HB:=n1_;have BK282:=n2_;have GW282:=n3_;have GE282:=n4_;have NB281_282:=n5_;have NB282_281:=n6_;clear n0_ n1_ n2_ n3_ n4_ n5_ n6_;clear hb hbox hg)|((with_reducible refine qu_ (N:=4) rfl ?_);refine qr_ ?hg (N:=4) ?hd (cs:=#[.int .i64 0,.int .i64 0]) (t:=77) ?hr ?_;(case hd=>rfl);(case hg=>rfl);(case hr=>first|(go_simp;done)|(go_simp;rfl));intro gb283 hg w6 hbox hb;have n0_:=aK (qm_ (g:=gb281) (o:=.cells #[.int .i64 a0_0,.int .i64 a0_1] 77 (0,0)) (by (with_reducible repeat (first|refine qf_ ?_ _|refine qi_ ?_|refine qe_ ?_ _));exact BK281.out) hb);have n1_:=aK (qm_ (g:=gb282) (o:=.cells #[.int .i64 a1_0,.int .i64 a1_1] 77 (0,0)) (by (with_reducible repeat (first|refine qf_ ?_ _|refine qi_ ?_|refine qe_ ?_ _));exact BK282.out) hb);have n2_:=aK (qj_ (by repeat (first|(with_reducible first|exact HB.out|apply qb_|apply qa_|apply qc_|refine qh_ ?_ GE281.out|refine qh_ ?_ GE282.out)|exact HB.out)) hb);have n3_:=aK (hbox);have n4_:=aK ((by rw [hg];exact (qk_ (by repeat (first|(with_reducible first|exact HB.out|apply qb_|apply qa_|apply qc_|refine qh_ ?_ GE281.out|refine qh_ ?_ GE282.out)|exact HB.out))):w.heap.size≤gb283));have n5_:=aK ((by rw [hg];exact (qk_ (by repeat (first|(with_reducible first|exact HB.out|apply qb_|apply qa_|apply qc_|refine qh_ ?_ GE281.out|refine qh_ ?_ GE282.out)|exact HB.out))):w.heap.size≤gb283));have n6_:=aK ((by rw [hg];exact Nat.ne_of_lt (blk_lt (g:=gb281) (o:=.cells #[.int .i64 a0_0,.int .i64 a0_1] 77 (0,0)) (by (with_reducible repeat (first|refine qf_ ?_ _|refine qi_ ?_|refine qe_ ?_ _));exact BK281.out)):gb281 ≠ gb283));have n7_:=aK ((by rw [hg];exact Nat.ne_of_gt (blk_lt (g:=gb281) (o:=.cells #[.int .i64 a0_0,.int .i64 a0_1] 77 (0,0)) (by (with_reducible repeat (first|refine qf_ ?_ _|refine qi_ ?_|refine qe_ ?_ _));exact BK281.out)):gb283 ≠ gb281));have n8_:=aK ((by rw [hg];exact Nat.ne_of_lt (blk_lt (g:=gb282) (o:=.cells #[.int .i64 a1_0,.int .i64 a1_1] 77 (0,0)) (by (with_reducible repeat (first|refine qf_ ?_ _|refine qi_ ?_|refine qe_ ?_ _));exact BK282.out)):gb282 ≠ gb283));have n9_:=aK ((by rw [hg];exact Nat.ne_of_gt (blk_lt (g:=gb282) (o:=.cells #[.int .i64 a1_0,.int .i64 a1_1] 77 (0,0)) (by (with_reducible repeat (first|refine qf_ ?_ _|refine qi_ ?_|refine qe_ ?_ _));exact BK282.out)):gb283 ≠ gb282));clear BK281;clear BK282;clear HB;have BK281:=n0_;have BK282:=n1_;have HB:=n2_;have BK283:=n3_;have GW283:=n4_;have GE283:=n5_;have NB281_283:=n6_;have NB283_281:=n7_;have NB282_283:=n8_;have NB283_282:=n9_;clear n0_ n1_ n2_ n3_ n4_ n5_ n6_ n7_ n8_ n9_;clear hb hbox hg;have hnb7:=NB281_282.out;have hnc7:=NB282_281.out;have hnb8:=NB281_283.out;have hnc8:=NB283_281.out;have hcz9_0:w6.cell? ⟨gb281,0,none⟩=some (.int .i64 a0_0):=(qg_ BK281.out 0).trans rfl;have hcz9_1:w6.cell? ⟨gb281,1,none⟩=some (.int .i64 a0_1):=(qg_ BK281.out 1).trans rfl;have hfz9_0:=qd_ BK281.out 0;have hfz9_1:=qd_ BK281.out 1;have hnb10:=NB282_283.out;have hnc10:=NB283_282.out;have hcz11_0:w6.cell? ⟨gb282,0,none⟩=some (.int .i64 a1_0):=(qg_ BK282.out 0).trans rfl;have hcz11_1:w6.cell? ⟨gb282,1,none⟩=some (.int .i64 a1_1):=(qg_ BK282.out 1).trans rfl;have hfz11_0:=qd_ BK282.out 0;have hfz11_1:=qd_ BK282.out 1)|((with_reducible refine qa1_ (f:=177) rfl ?_);refine goesL_ (some 25) rfl rfl Try.func177 (by kernel_rfl) rfl #[.int .i64 (wrap64 ((wrap64 (a0_0 * a1_1))+(wrap64 (a1_0 * a0_1)))),.int .i64 (wrap64 (a0_1 * a1_1))] rfl (by (try simp only [List.map_toArray,List.map_cons,List.map_nil]);first|done|rfl|(simp only [List.length_drop,List.length_take];rfl)) ?_;(with_reducible refine (qh1_.calls k (wrap64 ((wrap64 (a0_0 * a1_1))+(wrap64 (a1_0 * a0_1)))) (wrap64 (a0_1 * a1_1)) t284 t285 t286 _ A3.out).mono ?_);rintro e w12 ⟨rfl,hb⟩;refine ⟨_,rfl,?_⟩;have n0_:=aK (qm_ (g:=gb281) (o:=.cells #[.int .i64 a0_0,.int .i64 a0_1] 77 (0,0)) (by (with_reducible repeat (first|refine qf_ ?_ _|refine qi_ ?_|refine qe_ ?_ _));exact BK281.out) hb);have n1_:=aK (qm_ (g:=gb282) (o:=.cells #[.int .i64 a1_0,.int .i64 a1_1] 77 (0,0)) (by (with_reducible repeat (first|refine qf_ ?_ _|refine qi_ ?_|refine qe_ ?_ _));exact BK282.out) hb);have n2_:=aK (qm_ (g:=gb283) (o:=.cells #[.int .i64 0,.int .i64 0] 77 (0,0)) (by (with_reducible repeat (first|refine qf_ ?_ _|refine qi_ ?_|refine qe_ ?_ _));exact BK283.out) hb);have n3_:=aK (qj_ (by repeat (first|(with_reducible first|exact HB.out|apply qb_|apply qa_|apply qc_|refine qh_ ?_ GE281.out|refine qh_ ?_ GE282.out|refine qh_ ?_ GE283.out)|exact HB.out)) hb);clear BK281;clear BK282;clear BK283;clear HB;have BK281:=n0_;have BK282:=n1_;have BK283:=n2_;have HB:=n3_;clear n0_ n1_ n2_ n3_;(try clear hb);(try clear hb2);(try clear hk);(try clear hi))|((with_reducible refine qu_ (N:=6) rfl ?_);refine qr_ ?hg (N:=6) ?hd (cs:=#[.int .i64 0,.int .i64 0]) (t:=77) ?hr ?_;(case hd=>rfl);(case hg=>rfl);(case hr=>first|(go_simp;done)|(go_simp;rfl));intro gb287 hg w13 hbox hb;have n0_:=aK (qm_ (g:=gb281) (o:=.cells #[.int .i64 a0_0,.int .i64 a0_1] 77 (0,0)) (by (with_reducible repeat (first|refine qf_ ?_ _|refine qi_ ?_|refine qe_ ?_ _));exact BK281.out) hb);have n1_:=aK (qm_ (g:=gb282) (o:=.cells #[.int .i64 a1_0,.int .i64 a1_1] 77 (0,0)) (by (with_reducible repeat (first|refine qf_ ?_ _|refine qi_ ?_|refine qe_ ?_ _));exact BK282.out) hb);have n2_:=aK (qm_ (g:=gb283) (o:=.cells #[.int .i64 0,.int .i64 0] 77 (0,0)) (by (with_reducible repeat (first|refine qf_ ?_ _|refine qi_ ?_|refine qe_ ?_ _));exact BK283.out) hb);have n3_:=aK (qj_ (by repeat (first|(with_reducible first|exact HB.out|apply qb_|apply qa_|apply qc_|refine qh_ ?_ GE281.out|refine qh_ ?_ GE282.out|refine qh_ ?_ GE283.out)|exact HB.out)) hb);have n4_:=aK (hbox);have n5_:=aK ((by rw [hg];exact (qk_ (by repeat (first|(with_reducible first|exact HB.out|apply qb_|apply qa_|apply qc_|refine qh_ ?_ GE281.out|refine qh_ ?_ GE282.out|refine qh_ ?_ GE283.out)|exact HB.out))):w.heap.size≤gb287));have n6_:=aK ((by rw [hg];exact (qk_ (by repeat (first|(with_reducible first|exact HB.out|apply qb_|apply qa_|apply qc_|refine qh_ ?_ GE281.out|refine qh_ ?_ GE282.out|refine qh_ ?_ GE283.out)|exact HB.out))):w.heap.size≤gb287));have n7_:=aK ((by rw [hg];exact Nat.ne_of_lt (blk_lt (g:=gb281) (o:=.cells #[.int .i64 a0_0,.int .i64 a0_1] 77 (0,0)) (by (with_reducible repeat (first|refine qf_ ?_ _|refine qi_ ?_|refine qe_ ?_ _));exact BK281.out)):gb281 ≠ gb287));have n8_:=aK ((by rw [hg];exact Nat.ne_of_gt (blk_lt (g:=gb281) (o:=.cells #[.int .i64 a0_0,.int .i64 a0_1] 77 (0,0)) (by (with_reducible repeat (first|refine qf_ ?_ _|refine qi_ ?_|refine qe_ ?_ _));exact BK281.out)):gb287 ≠ gb281));have n9_:=aK ((by rw [hg];exact Nat.ne_of_lt (blk_lt (g:=gb282) (o:=.cells #[.int .i64 a1_0,.int .i64 a1_1] 77 (0,0)) (by (with_reducible repeat (first|refine qf_ ?_ _|refine qi_ ?_|refine qe_ ?_ _));exact BK282.out)):gb282 ≠ gb287));have n10_:=aK ((by rw [hg];exact Nat.ne_of_gt (blk_lt (g:=gb282) (o:=.cells #[.int .i64 a1_0,.int .i64 a1_1] 77 (0,0)) (by (with_reducible repeat (first|refine qf_ ?_ _|refine qi_ ?_|refine qe_ ?_ _));exact BK282.out)):gb287 ≠ gb282));have n11_:=aK ((by rw [hg];exact Nat.ne_of_lt (blk_lt (g:=gb283) (o:=.cells #[.int .i64 0,.int .i64 0] 77 (0,0)) (by (with_reducible repeat (first|refine qf_ ?_ _|refine qi_ ?_|refine qe_ ?_ _));exact BK283.out)):gb283 ≠ gb287));have n12_:=aK ((by rw [hg];exact Nat.ne_of_gt (blk_lt (g:=gb283) (o:=.cells #[.int .i64 0,.int .i64 0] 77 (0,0)) (by (with_reducible repeat (first|refine qf_ ?_ _|refine qi_ ?_|refine qe_ ?_ _));exact BK283.out)):gb287 ≠ gb283));clear BK281;clear BK282;clear BK283;clear HB;have BK281:=n0_;have BK282:=n1_;have BK283:=n2_;have HB:=n3_;have BK287:=n4_;have GW287:=n5_;have GE287:=n6_;have NB281_287:=n7_;have NB287_281:=n8_;have NB282_287:=n9_;have NB287_282:=n10_;have NB283_287:=n11_;have NB287_283:=n12_;clear n0_ n1_ n2_ n3_ n4_ n5_ n6_ n7_ n8_ n9_ n10_ n11_ n12_;clear hb hbox hg;have hnb14:=NB287_281.out;have hnc14:=NB281_287.out;have hnb15:=NB287_282.out;have hnc15:=NB282_287.out;have hnb16:=NB287_283.out;have hnc16:=NB283_287.out;have hcz17_0:w13.cell? ⟨gb287,0,none⟩=some (.int .i64 0):=(qg_ BK287.out 0).trans rfl;have hcz17_1:w13.cell? ⟨gb287,1,none⟩=some (.int .i64 0):=(qg_ BK287.out 1).trans rfl;have hfz17_0:=qd_ BK287.out 0;have hfz17_1:=qd_ BK287.out 1;have hcz18_0:w13.cell? ⟨gb283,0,none⟩=some (.int .i64 0):=(qg_ BK283.out 0).trans rfl;have hcz18_1:w13.cell? ⟨gb283,1,none⟩=some (.int .i64 0):=(qg_ BK283.out 1).trans rfl;have hfz18_0:=qd_ BK283.out 0;have hfz18_1:=qd_ BK283.out 1))
 refine bodyPost_ret (results_ct rfl _ _ gb283 77 #[.int .i64 t284,.int .i64 t285] (0,0) _ rfl (by (with_reducible repeat (first|refine qf_ ?_ _|refine qi_ ?_|refine qe_ ?_ _));refine qi1_ (cs:=#[.int .i64 t284,.int .i64 0]) ?_ 1 _ rfl;(with_reducible repeat (first|refine qf_ ?_ _|refine qi_ ?_|refine qe_ ?_ _));refine qi1_ (cs:=#[.int .i64 0,.int .i64 0]) ?_ 0 _ rfl;(with_reducible repeat (first|refine qf_ ?_ _|refine qi_ ?_|refine qe_ ?_ _));refine qk1_ ?_ NB283_287.out _;(with_reducible repeat (first|refine qf_ ?_ _|refine qi_ ?_|refine qe_ ?_ _));refine qk1_ ?_ NB283_287.out _;(with_reducible repeat (first|refine qf_ ?_ _|refine qi_ ?_|refine qe_ ?_ _));exact BK283.out) Try.underlying77 rfl (by kernel_rfl)) rfl ?_
 exact ⟨by first|rfl|(simp [qo_,qn_] <;> rfl)|(simp [*,qo_,qn_] <;> rfl),by repeat (first|(with_reducible first|exact HB.out|apply qb_|apply qa_|apply qc_|refine qh_ ?_ GE281.out|refine qh_ ?_ GE282.out|refine qh_ ?_ GE283.out|refine qh_ ?_ GE287.out)|exact HB.out)⟩
end Go.Proofs.Ytaiefdhenikiiaa.Base
namespace Go.Proofs.Ytaiefdhenikiiaa.Base
open Go.RowKit Go.Proofs.YtaiefdhenikiiaaW.PrintWords Go.Proofs.YtaiefdhenikiiaaW.PrintLast Go.Proofs.YtaiefdhenikiiaaW.PrintMore
attribute [local go_sem] max2_int qo1_ max_two min_two max_three min_three max_four min_four Go.Proofs.YtaiefdhenikiiaaZ.qx_   -- for this text's walks alone
set_option linter.unusedVariables false
set_option linter.unusedSimpArgs false
def qh2_.f (k:Nat) (a0_0:Int) (a0_1:Int) (a1_0:Int) (a1_1:Int):Option (Int × Int × Bool):=(qh1_.f k (wrap64 (a0_0 * a1_0)) (wrap64 (a0_1 * a1_1))).bind fun bt568=>(some (bt568.1,bt568.2.1,bt568.2.2))
theorem qh2_.mono:∀ a0 a1 a2 a3 k,LeO (qh2_.f k a0 a1 a2 a3) (qh2_.f (k+1) a0 a1 a2 a3):=by
 intro a0 a1 a2 a3 k
 unfold qh2_.f
 repeat' first
   | (with_reducible exact qh1_.mono _ _ _)
   | (with_reducible exact LeO.refl _)
   | (with_reducible exact LeO.none _)
   | (with_reducible refine LeO.ite ?_ ?_)
   | (with_reducible refine LeO.bind ?_ (fun _=>?_))
   | exact qh1_.mono _ _ _
   | exact LeO.none _
   | refine LeO.ite ?_ ?_
   | refine LeO.bind ?_ (fun _=>?_)
set_option maxHeartbeats 8000000 in
set_option maxRecDepth 100000 in
theorem qh2_.calls (k:Nat) (a0_0:Int) (a0_1:Int) (a1_0:Int) (a1_1:Int) (r1:Int) (r2:Int) (r3:Bool) (w:World) (h:qh2_.f k a0_0 a0_1 a1_0 a1_1=some (r1,r2,r3)) :
  Calls Try.prog 178 #[.agg #[.int .i64 a0_0,.int .i64 a0_1],.agg #[.int .i64 a1_0,.int .i64 a1_1]] w fun e w'=>e=.returned (.tuple #[.agg #[.int .i64 r1,.int .i64 r2],.bool r3])∧Below w.heap.size w w':=by
 have hu77:=Try.underlying77
 have HB:=aK (Below.refl w.heap.size w)
 have H:((qh1_.f k (wrap64 (a0_0 * a1_0)) (wrap64 (a0_1 * a1_1))).bind fun bt568=>(some (bt568.1,bt568.2.1,bt568.2.2)))=some (r1,r2,r3):=h
 clear h
 replace H:=Option.bind_eq_some_iff.mp H
 obtain ⟨⟨t568,t569,t570⟩,A30,H⟩:=H
 replace H:(some (t568,t569,t570))=some (r1,r2,r3):=H
 have A3:=aK A30
 clear A30
 simp only [Option.some.injEq,Prod.mk.injEq] at H
 obtain ⟨rfl,rfl,rfl⟩:=H
 go_enter Try.func178,Try.ntmps178
 go_wp2_with (first|((with_reducible refine qu_ (N:=2) rfl ?_);refine qr_ ?hg (N:=2) ?hd (cs:=#[.int .i64 a0_0,.int .i64 a0_1]) (t:=77) ?hr ?_;(case hd=>rfl);(case hg=>rfl);(case hr=>first|(go_simp;done)|(go_simp;rfl));intro gb565 hg w4 hbox hb;have n0_:=aK (qj_ (by repeat (first|(with_reducible first|exact HB.out|apply qb_|apply qa_|apply qc_)|exact HB.out)) hb);have n1_:=aK (hbox);have n2_:=aK ((by rw [hg];exact (qk_ (by repeat (first|(with_reducible first|exact HB.out|apply qb_|apply qa_|apply qc_)|exact HB.out))):w.heap.size≤gb565));have n3_:=aK ((by rw [hg];exact (qk_ (by repeat (first|(with_reducible first|exact HB.out|apply qb_|apply qa_|apply qc_)|exact HB.out))):w.heap.size≤gb565));clear HB;have HB:=n0_;have BK565:=n1_;have GW565:=n2_;have GE565:=n3_;clear n0_ n1_ n2_ n3_;clear hb hbox hg)|((with_reducible refine qu_ (N:=3) rfl ?_);refine qr_ ?hg (N:=3) ?hd (cs:=#[.int .i64 a1_0,.int .i64 a1_1]) (t:=77) ?hr ?_;(case hd=>rfl);(case hg=>rfl);(case hr=>first|(go_simp;done)|(go_simp;rfl));intro gb566 hg w5 hbox hb;have n0_:=aK (qm_ (g:=gb565) (o:=.cells #[.int .i64 a0_0,.int .i64 a0_1] 77 (0,0)) (by (with_reducible repeat (first|refine qf_ ?_ _|refine qi_ ?_|refine qe_ ?_ _));exact BK565.out) hb);have n1_:=aK (qj_ (by repeat (first|(with_reducible first|exact HB.out|apply qb_|apply qa_|apply qc_|refine qh_ ?_ GE565.out)|exact HB.out)) hb);have n2_:=aK (hbox);have n3_:=aK ((by rw [hg];exact (qk_ (by repeat (first|(with_reducible first|exact HB.out|apply qb_|apply qa_|apply qc_|refine qh_ ?_ GE565.out)|exact HB.out))):w.heap.size≤gb566));have n4_:=aK ((by rw [hg];exact (qk_ (by repeat (first|(with_reducible first|exact HB.out|apply qb_|apply qa_|apply qc_|refine qh_ ?_ GE565.out)|exact HB.out))):w.heap.size≤gb566));have n5_:=aK ((by rw [hg];exact Nat.ne_of_lt (blk_lt (g:=gb565) (o:=.cells #[.int .i64 a0_0,.int .i64 a0_1] 77 (0,0)) (by (with_reducible repeat (first|refine qf_ ?_ _|refine qi_ ?_|refine qe_ ?_ _));exact BK565.out)):gb565 ≠ gb566));have n6_:=aK ((by rw [hg];exact Nat.ne_of_gt (blk_lt (g:=gb565) (o:=.cells #[.int .i64 a0_0,.int .i64 a0_1] 77 (0,0)) (by (with_reducible repeat (first|refine qf_ ?_ _|refine qi_ ?_|refine qe_ ?_ _));exact BK565.out)):gb566 ≠ gb565));clear BK565;clear HB;have BK565:=n0_;have HB:=n1_;have BK566:=n2_;have GW566:=n3_;have GE566:=n4_;have NB565_566:=n5_;have NB566_565:=n6_;clear n0_ n1_ n2_ n3_ n4_ n5_ n6_;clear hb hbox hg)|((with_reducible refine qu_ (N:=4) rfl ?_);refine qr_ ?hg (N:=4) ?hd (cs:=#[.int .i64 0,.int .i64 0]) (t:=77) ?hr ?_;(case hd=>rfl);(case hg=>rfl);(case hr=>first|(go_simp;done)|(go_simp;rfl));intro gb567 hg w6 hbox hb;have n0_:=aK (qm_ (g:=gb565) (o:=.cells #[.int .i64 a0_0,.int .i64 a0_1] 77 (0,0)) (by (with_reducible repeat (first|refine qf_ ?_ _|refine qi_ ?_|refine qe_ ?_ _));exact BK565.out) hb);have n1_:=aK (qm_ (g:=gb566) (o:=.cells #[.int .i64 a1_0,.int .i64 a1_1] 77 (0,0)) (by (with_reducible repeat (first|refine qf_ ?_ _|refine qi_ ?_|refine qe_ ?_ _));exact BK566.out) hb);have n2_:=aK (qj_ (by repeat (first|(with_reducible first|exact HB.out|apply qb_|apply qa_|apply qc_|refine qh_ ?_ GE565.out|refine qh_ ?_ GE566.out)|exact HB.out)) hb);have n3_:=aK (hbox);have n4_:=aK ((by rw [hg];exact (qk_ (by repeat (first|(with_reducible first|exact HB.out|apply qb_|apply qa_|apply qc_|refine qh_ ?_ GE565.out|refine qh_ ?_ GE566.out)|exact HB.out))):w.heap.size≤gb567));have n5_:=aK ((by rw [hg];exact (qk_ (by repeat (first|(with_reducible first|exact HB.out|apply qb_|apply qa_|apply qc_|refine qh_ ?_ GE565.out|refine qh_ ?_ GE566.out)|exact HB.out))):w.heap.size≤gb567));have n6_:=aK ((by rw [hg];exact Nat.ne_of_lt (blk_lt (g:=gb565) (o:=.cells #[.int .i64 a0_0,.int .i64 a0_1] 77 (0,0)) (by (with_reducible repeat (first|refine qf_ ?_ _|refine qi_ ?_|refine qe_ ?_ _));exact BK565.out)):gb565 ≠ gb567));have n7_:=aK ((by rw [hg];exact Nat.ne_of_gt (blk_lt (g:=gb565) (o:=.cells #[.int .i64 a0_0,.int .i64 a0_1] 77 (0,0)) (by (with_reducible repeat (first|refine qf_ ?_ _|refine qi_ ?_|refine qe_ ?_ _));exact BK565.out)):gb567 ≠ gb565));have n8_:=aK ((by rw [hg];exact Nat.ne_of_lt (blk_lt (g:=gb566) (o:=.cells #[.int .i64 a1_0,.int .i64 a1_1] 77 (0,0)) (by (with_reducible repeat (first|refine qf_ ?_ _|refine qi_ ?_|refine qe_ ?_ _));exact BK566.out)):gb566 ≠ gb567));have n9_:=aK ((by rw [hg];exact Nat.ne_of_gt (blk_lt (g:=gb566) (o:=.cells #[.int .i64 a1_0,.int .i64 a1_1] 77 (0,0)) (by (with_reducible repeat (first|refine qf_ ?_ _|refine qi_ ?_|refine qe_ ?_ _));exact BK566.out)):gb567 ≠ gb566));clear BK565;clear BK566;clear HB;have BK565:=n0_;have BK566:=n1_;have HB:=n2_;have BK567:=n3_;have GW567:=n4_;have GE567:=n5_;have NB565_567:=n6_;have NB567_565:=n7_;have NB566_567:=n8_;have NB567_566:=n9_;clear n0_ n1_ n2_ n3_ n4_ n5_ n6_ n7_ n8_ n9_;clear hb hbox hg;have hnb7:=NB565_566.out;have hnc7:=NB566_565.out;have hnb8:=NB565_567.out;have hnc8:=NB567_565.out;have hcz9_0:w6.cell? ⟨gb565,0,none⟩=some (.int .i64 a0_0):=(qg_ BK565.out 0).trans rfl;have hcz9_1:w6.cell? ⟨gb565,1,none⟩=some (.int .i64 a0_1):=(qg_ BK565.out 1).trans rfl;have hfz9_0:=qd_ BK565.out 0;have hfz9_1:=qd_ BK565.out 1;have hnb10:=NB566_567.out;have hnc10:=NB567_566.out;have hcz11_0:w6.cell? ⟨gb566,0,none⟩=some (.int .i64 a1_0):=(qg_ BK566.out 0).trans rfl;have hcz11_1:w6.cell? ⟨gb566,1,none⟩=some (.int .i64 a1_1):=(qg_ BK566.out 1).trans rfl;have hfz11_0:=qd_ BK566.out 0;have hfz11_1:=qd_ BK566.out 1)|((with_reducible refine qa1_ (f:=177) rfl ?_);refine goesL_ (some 19) rfl rfl Try.func177 (by kernel_rfl) rfl #[.int .i64 (wrap64 (a0_0 * a1_0)),.int .i64 (wrap64 (a0_1 * a1_1))] rfl (by (try simp only [List.map_toArray,List.map_cons,List.map_nil]);first|done|rfl|(simp only [List.length_drop,List.length_take];rfl)) ?_;(with_reducible refine (qh1_.calls k (wrap64 (a0_0 * a1_0)) (wrap64 (a0_1 * a1_1)) t568 t569 t570 _ A3.out).mono ?_);rintro e w12 ⟨rfl,hb⟩;refine ⟨_,rfl,?_⟩;have n0_:=aK (qm_ (g:=gb565) (o:=.cells #[.int .i64 a0_0,.int .i64 a0_1] 77 (0,0)) (by (with_reducible repeat (first|refine qf_ ?_ _|refine qi_ ?_|refine qe_ ?_ _));exact BK565.out) hb);have n1_:=aK (qm_ (g:=gb566) (o:=.cells #[.int .i64 a1_0,.int .i64 a1_1] 77 (0,0)) (by (with_reducible repeat (first|refine qf_ ?_ _|refine qi_ ?_|refine qe_ ?_ _));exact BK566.out) hb);have n2_:=aK (qm_ (g:=gb567) (o:=.cells #[.int .i64 0,.int .i64 0] 77 (0,0)) (by (with_reducible repeat (first|refine qf_ ?_ _|refine qi_ ?_|refine qe_ ?_ _));exact BK567.out) hb);have n3_:=aK (qj_ (by repeat (first|(with_reducible first|exact HB.out|apply qb_|apply qa_|apply qc_|refine qh_ ?_ GE565.out|refine qh_ ?_ GE566.out|refine qh_ ?_ GE567.out)|exact HB.out)) hb);clear BK565;clear BK566;clear BK567;clear HB;have BK565:=n0_;have BK566:=n1_;have BK567:=n2_;have HB:=n3_;clear n0_ n1_ n2_ n3_;(try clear hb);(try clear hb2);(try clear hk);(try clear hi))|((with_reducible refine qu_ (N:=6) rfl ?_);refine qr_ ?hg (N:=6) ?hd (cs:=#[.int .i64 0,.int .i64 0]) (t:=77) ?hr ?_;(case hd=>rfl);(case hg=>rfl);(case hr=>first|(go_simp;done)|(go_simp;rfl));intro gb571 hg w13 hbox hb;have n0_:=aK (qm_ (g:=gb565) (o:=.cells #[.int .i64 a0_0,.int .i64 a0_1] 77 (0,0)) (by (with_reducible repeat (first|refine qf_ ?_ _|refine qi_ ?_|refine qe_ ?_ _));exact BK565.out) hb);have n1_:=aK (qm_ (g:=gb566) (o:=.cells #[.int .i64 a1_0,.int .i64 a1_1] 77 (0,0)) (by (with_reducible repeat (first|refine qf_ ?_ _|refine qi_ ?_|refine qe_ ?_ _));exact BK566.out) hb);have n2_:=aK (qm_ (g:=gb567) (o:=.cells #[.int .i64 0,.int .i64 0] 77 (0,0)) (by (with_reducible repeat (first|refine qf_ ?_ _|refine qi_ ?_|refine qe_ ?_ _));exact BK567.out) hb);have n3_:=aK (qj_ (by repeat (first|(with_reducible first|exact HB.out|apply qb_|apply qa_|apply qc_|refine qh_ ?_ GE565.out|refine qh_ ?_ GE566.out|refine qh_ ?_ GE567.out)|exact HB.out)) hb);have n4_:=aK (hbox);have n5_:=aK ((by rw [hg];exact (qk_ (by repeat (first|(with_reducible first|exact HB.out|apply qb_|apply qa_|apply qc_|refine qh_ ?_ GE565.out|refine qh_ ?_ GE566.out|refine qh_ ?_ GE567.out)|exact HB.out))):w.heap.size≤gb571));have n6_:=aK ((by rw [hg];exact (qk_ (by repeat (first|(with_reducible first|exact HB.out|apply qb_|apply qa_|apply qc_|refine qh_ ?_ GE565.out|refine qh_ ?_ GE566.out|refine qh_ ?_ GE567.out)|exact HB.out))):w.heap.size≤gb571));have n7_:=aK ((by rw [hg];exact Nat.ne_of_lt (blk_lt (g:=gb565) (o:=.cells #[.int .i64 a0_0,.int .i64 a0_1] 77 (0,0)) (by (with_reducible repeat (first|refine qf_ ?_ _|refine qi_ ?_|refine qe_ ?_ _));exact BK565.out)):gb565 ≠ gb571));have n8_:=aK ((by rw [hg];exact Nat.ne_of_gt (blk_lt (g:=gb565) (o:=.cells #[.int .i64 a0_0,.int .i64 a0_1] 77 (0,0)) (by (with_reducible repeat (first|refine qf_ ?_ _|refine qi_ ?_|refine qe_ ?_ _));exact BK565.out)):gb571 ≠ gb565));have n9_:=aK ((by rw [hg];exact Nat.ne_of_lt (blk_lt (g:=gb566) (o:=.cells #[.int .i64 a1_0,.int .i64 a1_1] 77 (0,0)) (by (with_reducible repeat (first|refine qf_ ?_ _|refine qi_ ?_|refine qe_ ?_ _));exact BK566.out)):gb566 ≠ gb571));have n10_:=aK ((by rw [hg];exact Nat.ne_of_gt (blk_lt (g:=gb566) (o:=.cells #[.int .i64 a1_0,.int .i64 a1_1] 77 (0,0)) (by (with_reducible repeat (first|refine qf_ ?_ _|refine qi_ ?_|refine qe_ ?_ _));exact BK566.out)):gb571 ≠ gb566));have n11_:=aK ((by rw [hg];exact Nat.ne_of_lt (blk_lt (g:=gb567) (o:=.cells #[.int .i64 0,.int .i64 0] 77 (0,0)) (by (with_reducible repeat (first|refine qf_ ?_ _|refine qi_ ?_|refine qe_ ?_ _));exact BK567.out)):gb567 ≠ gb571));have n12_:=aK ((by rw [hg];exact Nat.ne_of_gt (blk_lt (g:=gb567) (o:=.cells #[.int .i64 0,.int .i64 0] 77 (0,0)) (by (with_reducible repeat (first|refine qf_ ?_ _|refine qi_ ?_|refine qe_ ?_ _));exact BK567.out)):gb571 ≠ gb567));clear BK565;clear BK566;clear BK567;clear HB;have BK565:=n0_;have BK566:=n1_;have BK567:=n2_;have HB:=n3_;have BK571:=n4_;have GW571:=n5_;have GE571:=n6_;have NB565_571:=n7_;have NB571_565:=n8_;have NB566_571:=n9_;have NB571_566:=n10_;have NB567_571:=n11_;have NB571_567:=n12_;clear n0_ n1_ n2_ n3_ n4_ n5_ n6_ n7_ n8_ n9_ n10_ n11_ n12_;clear hb hbox hg;have hnb14:=NB571_565.out;have hnc14:=NB565_571.out;have hnb15:=NB571_566.out;have hnc15:=NB566_571.out;have hnb16:=NB571_567.out;have hnc16:=NB567_571.out;have hcz17_0:w13.cell? ⟨gb571,0,none⟩=some (.int .i64 0):=(qg_ BK571.out 0).trans rfl;have hcz17_1:w13.cell? ⟨gb571,1,none⟩=some (.int .i64 0):=(qg_ BK571.out 1).trans rfl;have hfz17_0:=qd_ BK571.out 0;have hfz17_1:=qd_ BK571.out 1;have hcz18_0:w13.cell? ⟨gb567,0,none⟩=some (.int .i64 0):=(qg_ BK567.out 0).trans rfl;have hcz18_1:w13.cell? ⟨gb567,1,none⟩=some (.int .i64 0):=(qg_ BK567.out 1).trans rfl;have hfz18_0:=qd_ BK567.out 0;have hfz18_1:=qd_ BK567.out 1))
 refine bodyPost_ret (results_ct rfl _ _ gb567 77 #[.int .i64 t568,.int .i64 t569] (0,0) _ rfl (by (with_reducible repeat (first|refine qf_ ?_ _|refine qi_ ?_|refine qe_ ?_ _));refine qi1_ (cs:=#[.int .i64 t568,.int .i64 0]) ?_ 1 _ rfl;(with_reducible repeat (first|refine qf_ ?_ _|refine qi_ ?_|refine qe_ ?_ _));refine qi1_ (cs:=#[.int .i64 0,.int .i64 0]) ?_ 0 _ rfl;(with_reducible repeat (first|refine qf_ ?_ _|refine qi_ ?_|refine qe_ ?_ _));refine qk1_ ?_ NB567_571.out _;(with_reducible repeat (first|refine qf_ ?_ _|refine qi_ ?_|refine qe_ ?_ _));refine qk1_ ?_ NB567_571.out _;(with_reducible repeat (first|refine qf_ ?_ _|refine qi_ ?_|refine qe_ ?_ _));exact BK567.out) Try.underlying77 rfl (by kernel_rfl)) rfl ?_
 exact ⟨by first|rfl|(simp [qo_,qn_] <;> rfl)|(simp [*,qo_,qn_] <;> rfl),by repeat (first|(with_reducible first|exact HB.out|apply qb_|apply qa_|apply qc_|refine qh_ ?_ GE565.out|refine qh_ ?_ GE566.out|refine qh_ ?_ GE567.out|refine qh_ ?_ GE571.out)|exact HB.out)⟩
end Go.Proofs.Ytaiefdhenikiiaa.Base
namespace Go.Proofs.Ytaiefdhenikiiaa.Base
open Go.RowKit Go.Proofs.YtaiefdhenikiiaaW.PrintWords Go.Proofs.YtaiefdhenikiiaaW.PrintLast Go.Proofs.YtaiefdhenikiiaaW.PrintMore
attribute [local go_sem] max2_int qo1_ max_two min_two max_three min_three max_four min_four Go.Proofs.YtaiefdhenikiiaaZ.qx_   -- for this text's walks alone
set_option linter.unusedVariables false
set_option linter.unusedSimpArgs false
def qr1_.l0:Nat→Int→ByteArray→Int→Int→Int→Option (Bool)
 | 0,_,_,_,_,_=>none
 | k+1,x0,x1,x2,x9,x10=>if x10 < x9 then (if 0≤x10 then (if x10 < (x1.size:Int) then (if (wrap64 (bt x1 x10)) < 48 then (some false) else (if (wrap64 (bt x1 x10)) ≥ (wrap64 (48+x0)) then (some false) else (qr1_.l0 k x0 x1 x2 x9 (wrap64 (x10+1))))) else (none)) else (none)) else (some (decide ((x1.size:Int)≤x2)))
def qr1_.f (k:Nat) (a0:Int) (a1:ByteArray) (a2:Int):Option (Bool):=qr1_.l0 k a0 a1 a2 (a1.size:Int) 0
theorem qr1_.mono_l:∀ k,(∀ y0 y1 y2 y3 y4,LeO (qr1_.l0 k y0 y1 y2 y3 y4) (qr1_.l0 (k+1) y0 y1 y2 y3 y4))
 | 0=>fun _ _ _ _ _ r h=>by simp [qr1_.l0] at h
 | k+1=>by
  have ih0:=qr1_.mono_l k
  ·intro y0 y1 y2 y3 y4
   unfold qr1_.l0
   repeat' first
   | (with_reducible exact ih0 _ _ _ _ _)
   | (with_reducible exact LeO.refl _)
   | (with_reducible exact LeO.none _)
   | (with_reducible refine LeO.ite ?_ ?_)
   | (with_reducible refine LeO.bind ?_ (fun _=>?_))
   | exact ih0 _ _ _ _ _
   | exact LeO.none _
   | refine LeO.ite ?_ ?_
   | refine LeO.bind ?_ (fun _=>?_)
theorem qr1_.mono:∀ a0 a1 a2 k,LeO (qr1_.f k a0 a1 a2) (qr1_.f (k+1) a0 a1 a2):=by
 intro a0 a1 a2 k
 have ih0:=qr1_.mono_l k
 unfold qr1_.f
 repeat' first
   | (with_reducible exact ih0 _ _ _ _ _)
   | (with_reducible exact LeO.refl _)
   | (with_reducible exact LeO.none _)
   | (with_reducible refine LeO.ite ?_ ?_)
   | (with_reducible refine LeO.bind ?_ (fun _=>?_))
   | exact ih0 _ _ _ _ _
   | exact LeO.none _
   | refine LeO.ite ?_ ?_
   | refine LeO.bind ?_ (fun _=>?_)
set_option maxHeartbeats 8000000 in
set_option maxRecDepth 100000 in
theorem qr1_.calls (k:Nat) (a0:Int) (a1:ByteArray) (a2:Int) (r:Bool) (w:World) (h:qr1_.f k a0 a1 a2=some r) :
  Calls Try.prog 139 #[.int .i64 a0,.string a1,.int .i64 a2] w fun e w'=>e=.returned (.bool r)∧Drawn0 w w':=by
 have H:(qr1_.l0 k a0 a1 a2 (a1.size:Int) 0)=some r:=h
 clear h
 have H':=aK H
 clear H
 go_enter Try.func139,Try.ntmps139
 go_wp2
 go_loopg [10] k (fun kq v10 w'=>∃ (x10_1:Int),v10=.int .i64 x10_1∧Aside0 (qr1_.l0 kq a0 a1 a2 (a1.size:Int) x10_1=some r)∧Aside0 (kq≤k)∧Drawn0 w w')
 case atStart=>exact ⟨(0),(by first|rfl|(simp;done)|(simp [*];done)),H',⟨Nat.le_refl _⟩,by repeat (first|exact Drawn0.refl _|apply Drawn0.step)⟩
 case round =>
  clear H'
  try clear c1
  try clear p2
  obtain ⟨x10_1,rfl,HA,HK1,⟨m1,rfl⟩⟩:=hrel
  cases gk with
  | zero=>exact absurd HA.out (by simp [qr1_.l0])
  | succ k1 =>
   have H:=HA.out
   clear HA
   simp only [qr1_.l0] at H
   by_cases c4:x10_1 < (a1.size:Int)
   ·rw [if_pos c4] at H
    have c4b0:decide (x10_1 < (a1.size:Int))=true:=decide_eq_true c4
    clear c4
    by_cases c5:0≤x10_1
    ·rw [if_pos c5] at H
     have c5b0:decide (0≤x10_1)=true:=decide_eq_true c5
     clear c5
     by_cases c6:x10_1 < (a1.size:Int)
     ·rw [if_pos c6] at H
      have c6b0:decide (x10_1 < (a1.size:Int))=true:=decide_eq_true c6
      clear c6
      by_cases c8:(wrap64 (bt a1 x10_1)) < 48
      ·rw [if_pos c8] at H
       have c8b0:decide ((wrap64 (bt a1 x10_1)) < 48)=true:=decide_eq_true c8
       clear c8
       obtain rfl:=Option.some.inj H
       have p7:0≤(x10_1:Int):=of_decide_eq_true (by first|(with_reducible assumption)|assumption)
       have q7:x10_1 < (a1.size:Int):=of_decide_eq_true (by first|(with_reducible assumption)|assumption)
       have hx7:=bt_at a1 x10_1
       replace p7:=eq_true p7
       replace q7:=eq_true q7
       go_wp2
       go_ret
       exact ⟨by first|rfl|(simp;done)|(simp [*];done)|(simp [Go.Proofs.YtaiefdhenikiiaaZ.bne_nil];done),by repeat (first|exact Drawn0.refl _|apply Drawn0.step)⟩
      ·rw [if_neg c8] at H
       have c8b0:decide ((wrap64 (bt a1 x10_1)) < 48)=false:=decide_eq_false c8
       clear c8
       by_cases c10:(wrap64 (bt a1 x10_1)) ≥ (wrap64 (48+a0))
       ·rw [if_pos c10] at H
        have c10b0:decide ((wrap64 (48+a0))≤(wrap64 (bt a1 x10_1)))=true:=decide_eq_true c10
        clear c10
        obtain rfl:=Option.some.inj H
        have p7:0≤(x10_1:Int):=of_decide_eq_true (by first|(with_reducible assumption)|assumption)
        have q7:x10_1 < (a1.size:Int):=of_decide_eq_true (by first|(with_reducible assumption)|assumption)
        have hx7:=bt_at a1 x10_1
        replace p7:=eq_true p7
        replace q7:=eq_true q7
        have p9:0≤(x10_1:Int):=of_decide_eq_true (by first|(with_reducible assumption)|assumption)
        have q9:x10_1 < (a1.size:Int):=of_decide_eq_true (by first|(with_reducible assumption)|assumption)
        have hx9:=bt_at a1 x10_1
        replace p9:=eq_true p9
        replace q9:=eq_true q9
        go_wp2
        go_ret
        exact ⟨by first|rfl|(simp;done)|(simp [*];done)|(simp [Go.Proofs.YtaiefdhenikiiaaZ.bne_nil];done),by repeat (first|exact Drawn0.refl _|apply Drawn0.step)⟩
       ·rw [if_neg c10] at H
        have c10b0:decide ((wrap64 (48+a0))≤(wrap64 (bt a1 x10_1)))=false:=decide_eq_false c10
        clear c10
        have H':=aK H
        clear H
        have p7:0≤(x10_1:Int):=of_decide_eq_true (by first|(with_reducible assumption)|assumption)
        have q7:x10_1 < (a1.size:Int):=of_decide_eq_true (by first|(with_reducible assumption)|assumption)
        have hx7:=bt_at a1 x10_1
        replace p7:=eq_true p7
        replace q7:=eq_true q7
        have p9:0≤(x10_1:Int):=of_decide_eq_true (by first|(with_reducible assumption)|assumption)
        have q9:x10_1 < (a1.size:Int):=of_decide_eq_true (by first|(with_reducible assumption)|assumption)
        have hx9:=bt_at a1 x10_1
        replace p9:=eq_true p9
        replace q9:=eq_true q9
        go_wp2
        go_roundg k1
        case measure=>have:=HK1.out;omega
        case rel=>exact ⟨(wrap64 (x10_1+1)),(by first|rfl|(simp;done)|(simp [*];done)),H',⟨by have:=HK1.out;omega⟩,by repeat (first|exact Drawn0.refl _|apply Drawn0.step)⟩
     ·rw [if_neg c6] at H
      exact absurd H (by simp)
    ·rw [if_neg c5] at H
     exact absurd H (by simp)
   ·rw [if_neg c4] at H
    have c4b0:decide (x10_1 < (a1.size:Int))=false:=decide_eq_false c4
    clear c4
    obtain rfl:=Option.some.inj H
    go_wp2
    go_ret
    exact ⟨by first|rfl|(simp;done)|(simp [*];done)|(simp [Go.Proofs.YtaiefdhenikiiaaZ.bne_nil];done),by repeat (first|exact Drawn0.refl _|apply Drawn0.step)⟩
end Go.Proofs.Ytaiefdhenikiiaa.Base
namespace Go.Proofs.Ytaiefdhenikiiaa.Base
open Go.RowKit Go.Proofs.YtaiefdhenikiiaaW.PrintWords Go.Proofs.YtaiefdhenikiiaaW.PrintLast Go.Proofs.YtaiefdhenikiiaaW.PrintMore
attribute [local go_sem] max2_int qo1_ max_two min_two max_three min_three max_four min_four Go.Proofs.YtaiefdhenikiiaaZ.qx_   -- for this text's walks alone
set_option linter.unusedVariables false
set_option linter.unusedSimpArgs false
def qe3_.f (a0_0:ByteArray) (a0_1:Int) (a0_2:Int) (a1:Int):Option (Int):=if (wrap64 (a1 - (a0_0.size:Int))) < 0 then (some (-1)) else (some (wrap64 (a1 - (a0_0.size:Int))))
set_option maxHeartbeats 8000000 in
set_option maxRecDepth 100000 in
theorem qe3_.calls (a0_0:ByteArray) (a0_1:Int) (a0_2:Int) (a1:Int) (r:Int) (w:World) (h:qe3_.f a0_0 a0_1 a0_2 a1=some r) :
  Calls Try.prog 75 #[.agg #[.string a0_0,.int .i64 a0_1,.int .i64 a0_2],.int .i64 a1] w fun e w'=>e=.returned (.int .i64 r)∧Below w.heap.size w w':=by
 have hu75:=Try.underlying75
 have HB:=aK (Below.refl w.heap.size w)
 have H:(if (wrap64 (a1 - (a0_0.size:Int))) < 0 then (some (-1)) else (some (wrap64 (a1 - (a0_0.size:Int)))))=some r:=h
 clear h
 by_cases c3:(wrap64 (a1 - (a0_0.size:Int))) < 0
 ·rw [if_pos c3] at H
  have c3b0:decide ((wrap64 (a1 - (a0_0.size:Int))) < 0)=true:=decide_eq_true c3
  clear c3
  obtain rfl:=Option.some.inj H
  go_enter Try.func75,Try.ntmps75
  go_wp2_with (first|((with_reducible refine qu_ (N:=2) rfl ?_);refine qr_ ?hg (N:=2) ?hd (cs:=#[.string a0_0,.int .i64 a0_1,.int .i64 a0_2]) (t:=75) ?hr ?_;(case hd=>rfl);(case hg=>rfl);(case hr=>first|(go_simp;done)|(go_simp;rfl));intro gb101 hg w4 hbox hb;have n0_:=aK (qj_ (by repeat (first|(with_reducible first|exact HB.out|apply qb_|apply qa_|apply qc_)|exact HB.out)) hb);have n1_:=aK (hbox);have n2_:=aK ((by rw [hg];exact (qk_ (by repeat (first|(with_reducible first|exact HB.out|apply qb_|apply qa_|apply qc_)|exact HB.out))):w.heap.size≤gb101));have n3_:=aK ((by rw [hg];exact (qk_ (by repeat (first|(with_reducible first|exact HB.out|apply qb_|apply qa_|apply qc_)|exact HB.out))):w.heap.size≤gb101));clear HB;have HB:=n0_;have BK101:=n1_;have GW101:=n2_;have GE101:=n3_;clear n0_ n1_ n2_ n3_;clear hb hbox hg;have hcz5_0:w4.cell? ⟨gb101,0,none⟩=some (.string a0_0):=(qg_ BK101.out 0).trans rfl;have hcz5_1:w4.cell? ⟨gb101,1,none⟩=some (.int .i64 a0_1):=(qg_ BK101.out 1).trans rfl;have hcz5_2:w4.cell? ⟨gb101,2,none⟩=some (.int .i64 a0_2):=(qg_ BK101.out 2).trans rfl;have hfz5_0:=qd_ BK101.out 0;have hfz5_1:=qd_ BK101.out 1;have hfz5_2:=qd_ BK101.out 2))
  go_ret
  exact ⟨by first|rfl|(simp [qo_,qn_] <;> rfl)|(simp [*,qo_,qn_] <;> rfl),by repeat (first|(with_reducible first|exact HB.out|apply qb_|apply qa_|apply qc_|refine qh_ ?_ GE101.out)|exact HB.out)⟩
 ·rw [if_neg c3] at H
  have c3b0:decide ((wrap64 (a1 - (a0_0.size:Int))) < 0)=false:=decide_eq_false c3
  clear c3
  obtain rfl:=Option.some.inj H
  go_enter Try.func75,Try.ntmps75
  go_wp2_with (first|((with_reducible refine qu_ (N:=2) rfl ?_);refine qr_ ?hg (N:=2) ?hd (cs:=#[.string a0_0,.int .i64 a0_1,.int .i64 a0_2]) (t:=75) ?hr ?_;(case hd=>rfl);(case hg=>rfl);(case hr=>first|(go_simp;done)|(go_simp;rfl));intro gb101 hg w6 hbox hb;have n0_:=aK (qj_ (by repeat (first|(with_reducible first|exact HB.out|apply qb_|apply qa_|apply qc_)|exact HB.out)) hb);have n1_:=aK (hbox);have n2_:=aK ((by rw [hg];exact (qk_ (by repeat (first|(with_reducible first|exact HB.out|apply qb_|apply qa_|apply qc_)|exact HB.out))):w.heap.size≤gb101));have n3_:=aK ((by rw [hg];exact (qk_ (by repeat (first|(with_reducible first|exact HB.out|apply qb_|apply qa_|apply qc_)|exact HB.out))):w.heap.size≤gb101));clear HB;have HB:=n0_;have BK101:=n1_;have GW101:=n2_;have GE101:=n3_;clear n0_ n1_ n2_ n3_;clear hb hbox hg;have hcz7_0:w6.cell? ⟨gb101,0,none⟩=some (.string a0_0):=(qg_ BK101.out 0).trans rfl;have hcz7_1:w6.cell? ⟨gb101,1,none⟩=some (.int .i64 a0_1):=(qg_ BK101.out 1).trans rfl;have hcz7_2:w6.cell? ⟨gb101,2,none⟩=some (.int .i64 a0_2):=(qg_ BK101.out 2).trans rfl;have hfz7_0:=qd_ BK101.out 0;have hfz7_1:=qd_ BK101.out 1;have hfz7_2:=qd_ BK101.out 2))
  go_ret
  exact ⟨by first|rfl|(simp [qo_,qn_] <;> rfl)|(simp [*,qo_,qn_] <;> rfl),by repeat (first|(with_reducible first|exact HB.out|apply qb_|apply qa_|apply qc_|refine qh_ ?_ GE101.out)|exact HB.out)⟩
end Go.Proofs.Ytaiefdhenikiiaa.Base
namespace Go.Proofs.Ytaiefdhenikiiaa.Base
open Go.RowKit Go.Proofs.YtaiefdhenikiiaaW.PrintWords Go.Proofs.YtaiefdhenikiiaaW.PrintLast Go.Proofs.YtaiefdhenikiiaaW.PrintMore
attribute [local go_sem] max2_int qo1_ max_two min_two max_three min_three max_four min_four Go.Proofs.YtaiefdhenikiiaaZ.qx_   -- for this text's walks alone
set_option linter.unusedVariables false
set_option linter.unusedSimpArgs false
def qm1_.l0:Nat→List (S75)→Int→Int→Option (Int)
 | 0,_,_,_=>none
 | k+1,x0,x1,x5=>if x5 < (x0.length:Int) then (if 0≤x5 then ((qe3_.f ((rd_T75 x0 x5).f0) ((rd_T75 x0 x5).f1.f0) ((rd_T75 x0 x5).f1.f1) x1).bind fun t103=>(if t103 < 0 then (some (-1)) else (qm1_.l0 k x0 t103 (wrap64 (x5+1))))) else (none)) else (some x1)
def qm1_.f (k:Nat) (l0:List (S75)) (a1:Int):Option (Int):=if (wrap64 (a1 - (l0.length:Int))) < 0 then (some (-1)) else (qm1_.l0 k l0 (wrap64 (a1 - (l0.length:Int))) 0)
theorem qm1_.mono_l:∀ k,(∀ y0 y1 y2,LeO (qm1_.l0 k y0 y1 y2) (qm1_.l0 (k+1) y0 y1 y2))
 | 0=>fun _ _ _ r h=>by simp [qm1_.l0] at h
 | k+1=>by
  have ih0:=qm1_.mono_l k
  ·intro y0 y1 y2
   unfold qm1_.l0
   repeat' first
   | (with_reducible exact ih0 _ _ _)
   | (with_reducible exact LeO.refl _)
   | (with_reducible exact LeO.none _)
   | (with_reducible refine LeO.ite ?_ ?_)
   | (with_reducible refine LeO.bind ?_ (fun _=>?_))
   | exact ih0 _ _ _
   | exact LeO.none _
   | refine LeO.ite ?_ ?_
   | refine LeO.bind ?_ (fun _=>?_)
theorem qm1_.mono:∀ a0 a1 k,LeO (qm1_.f k a0 a1) (qm1_.f (k+1) a0 a1):=by
 intro a0 a1 k
 have ih0:=qm1_.mono_l k
 unfold qm1_.f
 repeat' first
   | (with_reducible exact ih0 _ _ _)
   | (with_reducible exact LeO.refl _)
   | (with_reducible exact LeO.none _)
   | (with_reducible refine LeO.ite ?_ ?_)
   | (with_reducible refine LeO.bind ?_ (fun _=>?_))
   | exact ih0 _ _ _
   | exact LeO.none _
   | refine LeO.ite ?_ ?_
   | refine LeO.bind ?_ (fun _=>?_)
set_option maxHeartbeats 8000000 in
set_option maxRecDepth 100000 in
theorem qm1_.calls (k:Nat) (A0:Option Addr) (c0:Nat) (l0:List (S75)) (a1:Int) (r:Int) (w:World) (hr0:Kd.C k75 w A0 l0.length l0) (hc0:l0.length≤c0) (h:qm1_.f k l0 a1=some r) :
  Calls Try.prog 21 #[.slice A0 l0.length c0,.int .i64 a1] w fun e w'=>e=.returned (.int .i64 r)∧Below w.heap.size w w':=by
 have hu75:=Try.underlying75
 have HR0:=aK hr0
 have HC0:=aK hc0
 clear hr0 hc0
 have HB:=aK (Below.refl w.heap.size w)
 have H:(if (wrap64 (a1 - (l0.length:Int))) < 0 then (some (-1)) else (qm1_.l0 k l0 (wrap64 (a1 - (l0.length:Int))) 0))=some r:=h
 clear h
 by_cases c3:(wrap64 (a1 - (l0.length:Int))) < 0
 ·rw [if_pos c3] at H
  have c3b0:decide ((wrap64 (a1 - (l0.length:Int))) < 0)=true:=decide_eq_true c3
  clear c3
  obtain rfl:=Option.some.inj H
  go_enter Try.func21,Try.ntmps21
  go_wp2
  go_ret
  exact ⟨by first|rfl|(simp [qo_,qn_] <;> rfl)|(simp [*,qo_,qn_] <;> rfl),by repeat (first|(with_reducible first|exact HB.out|apply qb_|apply qa_|apply qc_)|exact HB.out)⟩
 ·rw [if_neg c3] at H
  have c3b0:decide ((wrap64 (a1 - (l0.length:Int))) < 0)=false:=decide_eq_false c3
  clear c3
  have H':=aK H
  clear H
  go_enter Try.func21,Try.ntmps21
  go_wp2
  go_loopg [1,5] k (fun kq v1 v5 w'=>∃ (x1_1:Int) (x5_1:Int),v1=.int .i64 x1_1∧v5=.int .i64 x5_1∧Aside0 (qm1_.l0 kq l0 x1_1 x5_1=some r)∧Aside0 (kq≤k)∧Aside0 (Below w.heap.size w w'))
  case atStart=>exact ⟨(wrap64 (a1 - (l0.length:Int))),(0),(by first|rfl|(simp;done)|(simp [*];done)),(by first|rfl|(simp;done)|(simp [*];done)),H',⟨Nat.le_refl _⟩,⟨by repeat (first|(with_reducible first|exact HB.out|apply qb_|apply qa_|apply qc_)|exact HB.out)⟩⟩
  case round =>
   clear H'
   try clear c2
   try clear p2
   try clear c3
   try clear c3b0
   obtain ⟨x1_1,x5_1,rfl,rfl,HA,HK1,HB⟩:=hrel
   cases gk with
   | zero=>exact absurd HA.out (by simp [qm1_.l0])
   | succ k1 =>
    have H:=HA.out
    clear HA
    simp only [qm1_.l0] at H
    by_cases c4:x5_1 < (l0.length:Int)
    ·rw [if_pos c4] at H
     have c4b0:decide (x5_1 < (l0.length:Int))=true:=decide_eq_true c4
     clear c4
     by_cases c5:0≤x5_1
     ·rw [if_pos c5] at H
      have c5b0:decide (0≤x5_1)=true:=decide_eq_true c5
      clear c5
      replace H:=Option.bind_eq_some_iff.mp H
      obtain ⟨t103,A60,H⟩:=H
      replace H:(if t103 < 0 then (some (-1)) else (qm1_.l0 k1 l0 t103 (wrap64 (x5_1+1))))=some r:=H
      have A6:=aK A60
      clear A60
      by_cases c7:t103 < 0
      ·rw [if_pos c7] at H
       have c7b0:decide (t103 < 0)=true:=decide_eq_true c7
       clear c7
       obtain rfl:=Option.some.inj H
       have p102:0≤(x5_1:Int):=of_decide_eq_true (by first|(with_reducible assumption)|assumption)
       have q102:x5_1 < (l0.length:Int):=of_decide_eq_true (by first|(with_reducible assumption)|assumption)
       obtain ⟨ad102,e102,hx102_0,hx102_1,hx102_2⟩:=at_T75 HR0.out x5_1 p102 q102
       cases e102
       replace hx102_0:=(HB.out.cell (World.block_lt_of_cell? w _ hx102_0)).trans hx102_0
       replace hx102_1:=(HB.out.cell (World.block_lt_of_cell? w _ hx102_1)).trans hx102_1
       replace hx102_2:=(HB.out.cell (World.block_lt_of_cell? w _ hx102_2)).trans hx102_2
       replace p102:=eq_true p102
       replace q102:=eq_true q102
       go_wp2_with (first|((with_reducible refine qa1_ (f:=75) rfl ?_);refine goesL_ (some 23) rfl rfl Try.func75 (by kernel_rfl) rfl #[.agg #[.string ((rd_T75 l0 x5_1).f0),.int .i64 ((rd_T75 l0 x5_1).f1.f0),.int .i64 ((rd_T75 l0 x5_1).f1.f1)],.int .i64 x1_1] rfl (by (try simp only [List.map_toArray,List.map_cons,List.map_nil]);first|done|rfl|(simp only [List.length_drop,List.length_take];rfl)) ?_;(with_reducible refine (qe3_.calls ((rd_T75 l0 x5_1).f0) ((rd_T75 l0 x5_1).f1.f0) ((rd_T75 l0 x5_1).f1.f1) x1_1 t103 _ A6.out).mono ?_);rintro e w8 ⟨rfl,hb⟩;refine ⟨_,rfl,?_⟩;have n0_:=aK (qj_ (by repeat (first|(with_reducible first|exact HB.out|apply qb_|apply qa_|apply qc_)|exact HB.out)) hb);clear HB;have HB:=n0_;clear n0_;(try clear hb);(try clear hb2);(try clear hk);(try clear hi)))
       go_ret
       exact ⟨by first|rfl|(simp [qo_,qn_] <;> rfl)|(simp [*,qo_,qn_] <;> rfl),by repeat (first|(with_reducible first|exact HB.out|apply qb_|apply qa_|apply qc_)|exact HB.out)⟩
      ·rw [if_neg c7] at H
       have c7b0:decide (t103 < 0)=false:=decide_eq_false c7
       clear c7
       have H':=aK H
       clear H
       have p102:0≤(x5_1:Int):=of_decide_eq_true (by first|(with_reducible assumption)|assumption)
       have q102:x5_1 < (l0.length:Int):=of_decide_eq_true (by first|(with_reducible assumption)|assumption)
       obtain ⟨ad102,e102,hx102_0,hx102_1,hx102_2⟩:=at_T75 HR0.out x5_1 p102 q102
       cases e102
       replace hx102_0:=(HB.out.cell (World.block_lt_of_cell? w _ hx102_0)).trans hx102_0
       replace hx102_1:=(HB.out.cell (World.block_lt_of_cell? w _ hx102_1)).trans hx102_1
       replace hx102_2:=(HB.out.cell (World.block_lt_of_cell? w _ hx102_2)).trans hx102_2
       replace p102:=eq_true p102
       replace q102:=eq_true q102
       go_wp2_with (first|((with_reducible refine qa1_ (f:=75) rfl ?_);refine goesL_ (some 23) rfl rfl Try.func75 (by kernel_rfl) rfl #[.agg #[.string ((rd_T75 l0 x5_1).f0),.int .i64 ((rd_T75 l0 x5_1).f1.f0),.int .i64 ((rd_T75 l0 x5_1).f1.f1)],.int .i64 x1_1] rfl (by (try simp only [List.map_toArray,List.map_cons,List.map_nil]);first|done|rfl|(simp only [List.length_drop,List.length_take];rfl)) ?_;(with_reducible refine (qe3_.calls ((rd_T75 l0 x5_1).f0) ((rd_T75 l0 x5_1).f1.f0) ((rd_T75 l0 x5_1).f1.f1) x1_1 t103 _ A6.out).mono ?_);rintro e w9 ⟨rfl,hb⟩;refine ⟨_,rfl,?_⟩;have n0_:=aK (qj_ (by repeat (first|(with_reducible first|exact HB.out|apply qb_|apply qa_|apply qc_)|exact HB.out)) hb);clear HB;have HB:=n0_;clear n0_;(try clear hb);(try clear hb2);(try clear hk);(try clear hi)))
       go_roundg k1
       case measure=>have:=HK1.out;omega
       case rel=>exact ⟨(t103),(wrap64 (x5_1+1)),(by first|rfl|(simp;done)|(simp [*];done)),(by first|rfl|(simp;done)|(simp [*];done)),H',⟨by have:=HK1.out;omega⟩,⟨by repeat (first|(with_reducible first|exact HB.out|apply qb_|apply qa_|apply qc_)|exact HB.out)⟩⟩
     ·rw [if_neg c5] at H
      exact absurd H (by simp)
    ·rw [if_neg c4] at H
     have c4b0:decide (x5_1 < (l0.length:Int))=false:=decide_eq_false c4
     clear c4
     obtain rfl:=Option.some.inj H
     go_wp2
     go_ret
     exact ⟨by first|rfl|(simp [qo_,qn_] <;> rfl)|(simp [*,qo_,qn_] <;> rfl),by repeat (first|(with_reducible first|exact HB.out|apply qb_|apply qa_|apply qc_)|exact HB.out)⟩
end Go.Proofs.Ytaiefdhenikiiaa.Base
namespace Go.Proofs.Ytaiefdhenikiiaa.Base
open Go.RowKit Go.Proofs.YtaiefdhenikiiaaW.PrintWords Go.Proofs.YtaiefdhenikiiaaW.PrintLast Go.Proofs.YtaiefdhenikiiaaW.PrintMore
attribute [local go_sem] max2_int qo1_ max_two min_two max_three min_three max_four min_four Go.Proofs.YtaiefdhenikiiaaZ.qx_   -- for this text's walks alone
set_option linter.unusedVariables false
set_option linter.unusedSimpArgs false
def qz2_.f (a0_0:Int) (a0_1:Int):Option (Int × Int):=some (a0_0,a0_1)
set_option maxHeartbeats 8000000 in
set_option maxRecDepth 100000 in
theorem qz2_.calls (a0_0:Int) (a0_1:Int) (r1:Int) (r2:Int) (w:World) (h:qz2_.f a0_0 a0_1=some (r1,r2)) :
  Calls Try.prog 153 #[.agg #[.int .i64 a0_0,.int .i64 a0_1]] w fun e w'=>e=.returned (.agg #[.int .i64 r1,.int .i64 r2])∧Below w.heap.size w w':=by
 have hu73:=Try.underlying73
 have hu77:=Try.underlying77
 have HB:=aK (Below.refl w.heap.size w)
 have H:(some (a0_0,a0_1))=some (r1,r2):=h
 clear h
 simp only [Option.some.injEq,Prod.mk.injEq] at H
 obtain ⟨rfl,rfl⟩:=H
 go_enter Try.func153,Try.ntmps153
 go_wp2_with (first|((with_reducible refine qu_ (N:=1) rfl ?_);refine qr_ ?hg (N:=1) ?hd (cs:=#[.int .i64 a0_0,.int .i64 a0_1]) (t:=73) ?hr ?_;(case hd=>rfl);(case hg=>rfl);(case hr=>first|(go_simp;done)|(go_simp;rfl));intro gb121 hg w2 hbox hb;have n0_:=aK (qj_ (by repeat (first|(with_reducible first|exact HB.out|apply qb_|apply qa_|apply qc_)|exact HB.out)) hb);have n1_:=aK (hbox);have n2_:=aK ((by rw [hg];exact (qk_ (by repeat (first|(with_reducible first|exact HB.out|apply qb_|apply qa_|apply qc_)|exact HB.out))):w.heap.size≤gb121));have n3_:=aK ((by rw [hg];exact (qk_ (by repeat (first|(with_reducible first|exact HB.out|apply qb_|apply qa_|apply qc_)|exact HB.out))):w.heap.size≤gb121));clear HB;have HB:=n0_;have BK121:=n1_;have GW121:=n2_;have GE121:=n3_;clear n0_ n1_ n2_ n3_;clear hb hbox hg)|((with_reducible refine qu_ (N:=2) rfl ?_);refine qr_ ?hg (N:=2) ?hd (cs:=#[.int .i64 0,.int .i64 0]) (t:=77) ?hr ?_;(case hd=>rfl);(case hg=>rfl);(case hr=>first|(go_simp;done)|(go_simp;rfl));intro gb122 hg w3 hbox hb;have n0_:=aK (qm_ (g:=gb121) (o:=.cells #[.int .i64 a0_0,.int .i64 a0_1] 73 (0,0)) (by (with_reducible repeat (first|refine qf_ ?_ _|refine qi_ ?_|refine qe_ ?_ _));exact BK121.out) hb);have n1_:=aK (qj_ (by repeat (first|(with_reducible first|exact HB.out|apply qb_|apply qa_|apply qc_|refine qh_ ?_ GE121.out)|exact HB.out)) hb);have n2_:=aK (hbox);have n3_:=aK ((by rw [hg];exact (qk_ (by repeat (first|(with_reducible first|exact HB.out|apply qb_|apply qa_|apply qc_|refine qh_ ?_ GE121.out)|exact HB.out))):w.heap.size≤gb122));have n4_:=aK ((by rw [hg];exact (qk_ (by repeat (first|(with_reducible first|exact HB.out|apply qb_|apply qa_|apply qc_|refine qh_ ?_ GE121.out)|exact HB.out))):w.heap.size≤gb122));have n5_:=aK ((by rw [hg];exact Nat.ne_of_lt (blk_lt (g:=gb121) (o:=.cells #[.int .i64 a0_0,.int .i64 a0_1] 73 (0,0)) (by (with_reducible repeat (first|refine qf_ ?_ _|refine qi_ ?_|refine qe_ ?_ _));exact BK121.out)):gb121 ≠ gb122));have n6_:=aK ((by rw [hg];exact Nat.ne_of_gt (blk_lt (g:=gb121) (o:=.cells #[.int .i64 a0_0,.int .i64 a0_1] 73 (0,0)) (by (with_reducible repeat (first|refine qf_ ?_ _|refine qi_ ?_|refine qe_ ?_ _));exact BK121.out)):gb122 ≠ gb121));clear BK121;clear HB;have BK121:=n0_;have HB:=n1_;have BK122:=n2_;have GW122:=n3_;have GE122:=n4_;have NB121_122:=n5_;have NB122_121:=n6_;clear n0_ n1_ n2_ n3_ n4_ n5_ n6_;clear hb hbox hg)|((with_reducible refine qu_ (N:=3) rfl ?_);refine qr_ ?hg (N:=3) ?hd (cs:=#[.int .i64 0,.int .i64 0]) (t:=77) ?hr ?_;(case hd=>rfl);(case hg=>rfl);(case hr=>first|(go_simp;done)|(go_simp;rfl));intro gb123 hg w4 hbox hb;have n0_:=aK (qm_ (g:=gb121) (o:=.cells #[.int .i64 a0_0,.int .i64 a0_1] 73 (0,0)) (by (with_reducible repeat (first|refine qf_ ?_ _|refine qi_ ?_|refine qe_ ?_ _));exact BK121.out) hb);have n1_:=aK (qm_ (g:=gb122) (o:=.cells #[.int .i64 0,.int .i64 0] 77 (0,0)) (by (with_reducible repeat (first|refine qf_ ?_ _|refine qi_ ?_|refine qe_ ?_ _));exact BK122.out) hb);have n2_:=aK (qj_ (by repeat (first|(with_reducible first|exact HB.out|apply qb_|apply qa_|apply qc_|refine qh_ ?_ GE121.out|refine qh_ ?_ GE122.out)|exact HB.out)) hb);have n3_:=aK (hbox);have n4_:=aK ((by rw [hg];exact (qk_ (by repeat (first|(with_reducible first|exact HB.out|apply qb_|apply qa_|apply qc_|refine qh_ ?_ GE121.out|refine qh_ ?_ GE122.out)|exact HB.out))):w.heap.size≤gb123));have n5_:=aK ((by rw [hg];exact (qk_ (by repeat (first|(with_reducible first|exact HB.out|apply qb_|apply qa_|apply qc_|refine qh_ ?_ GE121.out|refine qh_ ?_ GE122.out)|exact HB.out))):w.heap.size≤gb123));have n6_:=aK ((by rw [hg];exact Nat.ne_of_lt (blk_lt (g:=gb121) (o:=.cells #[.int .i64 a0_0,.int .i64 a0_1] 73 (0,0)) (by (with_reducible repeat (first|refine qf_ ?_ _|refine qi_ ?_|refine qe_ ?_ _));exact BK121.out)):gb121 ≠ gb123));have n7_:=aK ((by rw [hg];exact Nat.ne_of_gt (blk_lt (g:=gb121) (o:=.cells #[.int .i64 a0_0,.int .i64 a0_1] 73 (0,0)) (by (with_reducible repeat (first|refine qf_ ?_ _|refine qi_ ?_|refine qe_ ?_ _));exact BK121.out)):gb123 ≠ gb121));have n8_:=aK ((by rw [hg];exact Nat.ne_of_lt (blk_lt (g:=gb122) (o:=.cells #[.int .i64 0,.int .i64 0] 77 (0,0)) (by (with_reducible repeat (first|refine qf_ ?_ _|refine qi_ ?_|refine qe_ ?_ _));exact BK122.out)):gb122 ≠ gb123));have n9_:=aK ((by rw [hg];exact Nat.ne_of_gt (blk_lt (g:=gb122) (o:=.cells #[.int .i64 0,.int .i64 0] 77 (0,0)) (by (with_reducible repeat (first|refine qf_ ?_ _|refine qi_ ?_|refine qe_ ?_ _));exact BK122.out)):gb123 ≠ gb122));clear BK121;clear BK122;clear HB;have BK121:=n0_;have BK122:=n1_;have HB:=n2_;have BK123:=n3_;have GW123:=n4_;have GE123:=n5_;have NB121_123:=n6_;have NB123_121:=n7_;have NB122_123:=n8_;have NB123_122:=n9_;clear n0_ n1_ n2_ n3_ n4_ n5_ n6_ n7_ n8_ n9_;clear hb hbox hg;have hnb5:=NB121_122.out;have hnc5:=NB122_121.out;have hnb6:=NB121_123.out;have hnc6:=NB123_121.out;have hcz7_0:w4.cell? ⟨gb121,0,none⟩=some (.int .i64 a0_0):=(qg_ BK121.out 0).trans rfl;have hcz7_1:w4.cell? ⟨gb121,1,none⟩=some (.int .i64 a0_1):=(qg_ BK121.out 1).trans rfl;have hfz7_0:=qd_ BK121.out 0;have hfz7_1:=qd_ BK121.out 1;have hnb8:=NB123_122.out;have hnc8:=NB122_123.out;have hcz9_0:w4.cell? ⟨gb123,0,none⟩=some (.int .i64 0):=(qg_ BK123.out 0).trans rfl;have hcz9_1:w4.cell? ⟨gb123,1,none⟩=some (.int .i64 0):=(qg_ BK123.out 1).trans rfl;have hfz9_0:=qd_ BK123.out 0;have hfz9_1:=qd_ BK123.out 1;have hcz10_0:w4.cell? ⟨gb122,0,none⟩=some (.int .i64 0):=(qg_ BK122.out 0).trans rfl;have hcz10_1:w4.cell? ⟨gb122,1,none⟩=some (.int .i64 0):=(qg_ BK122.out 1).trans rfl;have hfz10_0:=qd_ BK122.out 0;have hfz10_1:=qd_ BK122.out 1))
 refine bodyPost_ret (results_cell_row rfl _ _ gb122 77 #[.int .i64 a0_0,.int .i64 a0_1] (0,0) _ rfl (by (with_reducible repeat (first|refine qf_ ?_ _|refine qi_ ?_|refine qe_ ?_ _));refine qi1_ (cs:=#[.int .i64 a0_0,.int .i64 0]) ?_ 1 _ rfl;(with_reducible repeat (first|refine qf_ ?_ _|refine qi_ ?_|refine qe_ ?_ _));refine qi1_ (cs:=#[.int .i64 0,.int .i64 0]) ?_ 0 _ rfl;(with_reducible repeat (first|refine qf_ ?_ _|refine qi_ ?_|refine qe_ ?_ _));refine qk1_ ?_ NB122_123.out _;(with_reducible repeat (first|refine qf_ ?_ _|refine qi_ ?_|refine qe_ ?_ _));refine qk1_ ?_ NB122_123.out _;(with_reducible repeat (first|refine qf_ ?_ _|refine qi_ ?_|refine qe_ ?_ _));exact BK122.out) Try.underlying77 rfl (by kernel_rfl)) rfl ?_
 exact ⟨by first|rfl|(simp [qo_,qn_] <;> rfl)|(simp [*,qo_,qn_] <;> rfl),by repeat (first|(with_reducible first|exact HB.out|apply qb_|apply qa_|apply qc_|refine qh_ ?_ GE121.out|refine qh_ ?_ GE122.out|refine qh_ ?_ GE123.out)|exact HB.out)⟩
end Go.Proofs.Ytaiefdhenikiiaa.Base
namespace Go.Proofs.Ytaiefdhenikiiaa.Base
open Go.RowKit Go.Proofs.YtaiefdhenikiiaaW.PrintWords Go.Proofs.YtaiefdhenikiiaaW.PrintLast Go.Proofs.YtaiefdhenikiiaaW.PrintMore
attribute [local go_sem] max2_int qo1_ max_two min_two max_three min_three max_four min_four Go.Proofs.YtaiefdhenikiiaaZ.qx_   -- for this text's walks alone
set_option linter.unusedVariables false
set_option linter.unusedSimpArgs false
def laws_toTerm.f (a0_0:ByteArray) (a0_1:Int) (a0_2:Int):Option (ByteArray × Int × Int):=(qz2_.f a0_1 a0_2).bind fun bt127=>(some (a0_0,bt127.1,bt127.2))
set_option maxHeartbeats 8000000 in
set_option maxRecDepth 100000 in
theorem laws_toTerm.calls (a0_0:ByteArray) (a0_1:Int) (a0_2:Int) (r1:ByteArray) (r2:Int) (r3:Int) (w:World) (h:laws_toTerm.f a0_0 a0_1 a0_2=some (r1,r2,r3)) :
  Calls Try.prog 77 #[.agg #[.string a0_0,.int .i64 a0_1,.int .i64 a0_2]] w fun e w'=>e=.returned (.agg #[.string r1,.int .i64 r2,.int .i64 r3])∧Below w.heap.size w w':=by
 have hu75:=Try.underlying75
 have hu79:=Try.underlying79
 have hu73:=Try.underlying73
 have hu77:=Try.underlying77
 have HB:=aK (Below.refl w.heap.size w)
 have H:((qz2_.f a0_1 a0_2).bind fun bt127=>(some (a0_0,bt127.1,bt127.2)))=some (r1,r2,r3):=h
 clear h
 replace H:=Option.bind_eq_some_iff.mp H
 obtain ⟨⟨t127,t128⟩,A20,H⟩:=H
 replace H:(some (a0_0,t127,t128))=some (r1,r2,r3):=H
 have A2:=aK A20
 clear A20
 simp only [Option.some.injEq,Prod.mk.injEq] at H
 obtain ⟨rfl,rfl,rfl⟩:=H
 go_enter Try.func77,Try.ntmps77
 go_wp2_with (first|((with_reducible refine qu_ (N:=1) rfl ?_);refine qr_ ?hg (N:=1) ?hd (cs:=#[.string a0_0,.int .i64 a0_1,.int .i64 a0_2]) (t:=75) ?hr ?_;(case hd=>rfl);(case hg=>rfl);(case hr=>first|(go_simp;done)|(go_simp;rfl));intro gb124 hg w3 hbox hb;have n0_:=aK (qj_ (by repeat (first|(with_reducible first|exact HB.out|apply qb_|apply qa_|apply qc_)|exact HB.out)) hb);have n1_:=aK (hbox);have n2_:=aK ((by rw [hg];exact (qk_ (by repeat (first|(with_reducible first|exact HB.out|apply qb_|apply qa_|apply qc_)|exact HB.out))):w.heap.size≤gb124));have n3_:=aK ((by rw [hg];exact (qk_ (by repeat (first|(with_reducible first|exact HB.out|apply qb_|apply qa_|apply qc_)|exact HB.out))):w.heap.size≤gb124));clear HB;have HB:=n0_;have BK124:=n1_;have GW124:=n2_;have GE124:=n3_;clear n0_ n1_ n2_ n3_;clear hb hbox hg)|((with_reducible refine qu_ (N:=2) rfl ?_);refine qr_ ?hg (N:=2) ?hd (cs:=#[.string (⟨#[]⟩:ByteArray),.int .i64 0,.int .i64 0]) (t:=79) ?hr ?_;(case hd=>rfl);(case hg=>rfl);(case hr=>first|(go_simp;done)|(go_simp;rfl));intro gb125 hg w4 hbox hb;have n0_:=aK (qm_ (g:=gb124) (o:=.cells #[.string a0_0,.int .i64 a0_1,.int .i64 a0_2] 75 (0,0)) (by (with_reducible repeat (first|refine qf_ ?_ _|refine qi_ ?_|refine qe_ ?_ _));exact BK124.out) hb);have n1_:=aK (qj_ (by repeat (first|(with_reducible first|exact HB.out|apply qb_|apply qa_|apply qc_|refine qh_ ?_ GE124.out)|exact HB.out)) hb);have n2_:=aK (hbox);have n3_:=aK ((by rw [hg];exact (qk_ (by repeat (first|(with_reducible first|exact HB.out|apply qb_|apply qa_|apply qc_|refine qh_ ?_ GE124.out)|exact HB.out))):w.heap.size≤gb125));have n4_:=aK ((by rw [hg];exact (qk_ (by repeat (first|(with_reducible first|exact HB.out|apply qb_|apply qa_|apply qc_|refine qh_ ?_ GE124.out)|exact HB.out))):w.heap.size≤gb125));have n5_:=aK ((by rw [hg];exact Nat.ne_of_lt (blk_lt (g:=gb124) (o:=.cells #[.string a0_0,.int .i64 a0_1,.int .i64 a0_2] 75 (0,0)) (by (with_reducible repeat (first|refine qf_ ?_ _|refine qi_ ?_|refine qe_ ?_ _));exact BK124.out)):gb124 ≠ gb125));have n6_:=aK ((by rw [hg];exact Nat.ne_of_gt (blk_lt (g:=gb124) (o:=.cells #[.string a0_0,.int .i64 a0_1,.int .i64 a0_2] 75 (0,0)) (by (with_reducible repeat (first|refine qf_ ?_ _|refine qi_ ?_|refine qe_ ?_ _));exact BK124.out)):gb125 ≠ gb124));clear BK124;clear HB;have BK124:=n0_;have HB:=n1_;have BK125:=n2_;have GW125:=n3_;have GE125:=n4_;have NB124_125:=n5_;have NB125_124:=n6_;clear n0_ n1_ n2_ n3_ n4_ n5_ n6_;clear hb hbox hg)|((with_reducible refine qu_ (N:=3) rfl ?_);refine qr_ ?hg (N:=3) ?hd (cs:=#[.string (⟨#[]⟩:ByteArray),.int .i64 0,.int .i64 0]) (t:=79) ?hr ?_;(case hd=>rfl);(case hg=>rfl);(case hr=>first|(go_simp;done)|(go_simp;rfl));intro gb126 hg w5 hbox hb;have n0_:=aK (qm_ (g:=gb124) (o:=.cells #[.string a0_0,.int .i64 a0_1,.int .i64 a0_2] 75 (0,0)) (by (with_reducible repeat (first|refine qf_ ?_ _|refine qi_ ?_|refine qe_ ?_ _));exact BK124.out) hb);have n1_:=aK (qm_ (g:=gb125) (o:=.cells #[.string (⟨#[]⟩:ByteArray),.int .i64 0,.int .i64 0] 79 (0,0)) (by (with_reducible repeat (first|refine qf_ ?_ _|refine qi_ ?_|refine qe_ ?_ _));exact BK125.out) hb);have n2_:=aK (qj_ (by repeat (first|(with_reducible first|exact HB.out|apply qb_|apply qa_|apply qc_|refine qh_ ?_ GE124.out|refine qh_ ?_ GE125.out)|exact HB.out)) hb);have n3_:=aK (hbox);have n4_:=aK ((by rw [hg];exact (qk_ (by repeat (first|(with_reducible first|exact HB.out|apply qb_|apply qa_|apply qc_|refine qh_ ?_ GE124.out|refine qh_ ?_ GE125.out)|exact HB.out))):w.heap.size≤gb126));have n5_:=aK ((by rw [hg];exact (qk_ (by repeat (first|(with_reducible first|exact HB.out|apply qb_|apply qa_|apply qc_|refine qh_ ?_ GE124.out|refine qh_ ?_ GE125.out)|exact HB.out))):w.heap.size≤gb126));have n6_:=aK ((by rw [hg];exact Nat.ne_of_lt (blk_lt (g:=gb124) (o:=.cells #[.string a0_0,.int .i64 a0_1,.int .i64 a0_2] 75 (0,0)) (by (with_reducible repeat (first|refine qf_ ?_ _|refine qi_ ?_|refine qe_ ?_ _));exact BK124.out)):gb124 ≠ gb126));have n7_:=aK ((by rw [hg];exact Nat.ne_of_gt (blk_lt (g:=gb124) (o:=.cells #[.string a0_0,.int .i64 a0_1,.int .i64 a0_2] 75 (0,0)) (by (with_reducible repeat (first|refine qf_ ?_ _|refine qi_ ?_|refine qe_ ?_ _));exact BK124.out)):gb126 ≠ gb124));have n8_:=aK ((by rw [hg];exact Nat.ne_of_lt (blk_lt (g:=gb125) (o:=.cells #[.string (⟨#[]⟩:ByteArray),.int .i64 0,.int .i64 0] 79 (0,0)) (by (with_reducible repeat (first|refine qf_ ?_ _|refine qi_ ?_|refine qe_ ?_ _));exact BK125.out)):gb125 ≠ gb126));have n9_:=aK ((by rw [hg];exact Nat.ne_of_gt (blk_lt (g:=gb125) (o:=.cells #[.string (⟨#[]⟩:ByteArray),.int .i64 0,.int .i64 0] 79 (0,0)) (by (with_reducible repeat (first|refine qf_ ?_ _|refine qi_ ?_|refine qe_ ?_ _));exact BK125.out)):gb126 ≠ gb125));clear BK124;clear BK125;clear HB;have BK124:=n0_;have BK125:=n1_;have HB:=n2_;have BK126:=n3_;have GW126:=n4_;have GE126:=n5_;have NB124_126:=n6_;have NB126_124:=n7_;have NB125_126:=n8_;have NB126_125:=n9_;clear n0_ n1_ n2_ n3_ n4_ n5_ n6_ n7_ n8_ n9_;clear hb hbox hg;have hnb6:=NB124_125.out;have hnc6:=NB125_124.out;have hnb7:=NB124_126.out;have hnc7:=NB126_124.out;have hcz8_0:w5.cell? ⟨gb124,0,none⟩=some (.string a0_0):=(qg_ BK124.out 0).trans rfl;have hcz8_1:w5.cell? ⟨gb124,1,none⟩=some (.int .i64 a0_1):=(qg_ BK124.out 1).trans rfl;have hcz8_2:w5.cell? ⟨gb124,2,none⟩=some (.int .i64 a0_2):=(qg_ BK124.out 2).trans rfl;have hfz8_0:=qd_ BK124.out 0;have hfz8_1:=qd_ BK124.out 1;have hfz8_2:=qd_ BK124.out 2;have hnb9:=NB126_125.out;have hnc9:=NB125_126.out;have hcz10_0:w5.cell? ⟨gb126,0,none⟩=some (.string (⟨#[]⟩:ByteArray)):=(qg_ BK126.out 0).trans rfl;have hcz10_1:w5.cell? ⟨gb126,1,none⟩=some (.int .i64 0):=(qg_ BK126.out 1).trans rfl;have hcz10_2:w5.cell? ⟨gb126,2,none⟩=some (.int .i64 0):=(qg_ BK126.out 2).trans rfl;have hfz10_0:=qd_ BK126.out 0;have hfz10_1:=qd_ BK126.out 1;have hfz10_2:=qd_ BK126.out 2)|((with_reducible refine qa1_ (f:=153) rfl ?_);refine goesL_ (some 9) rfl rfl Try.func153 (by kernel_rfl) rfl #[.agg #[.int .i64 a0_1,.int .i64 a0_2]] rfl (by (try simp only [List.map_toArray,List.map_cons,List.map_nil]);first|done|rfl|(simp only [List.length_drop,List.length_take];rfl)) ?_;(with_reducible refine (qz2_.calls a0_1 a0_2 t127 t128 _ A2.out).mono ?_);rintro e w11 ⟨rfl,hb⟩;refine ⟨_,rfl,?_⟩;have n0_:=aK (qm_ (g:=gb124) (o:=.cells #[.string a0_0,.int .i64 a0_1,.int .i64 a0_2] 75 (0,0)) (by (with_reducible repeat (first|refine qf_ ?_ _|refine qi_ ?_|refine qe_ ?_ _));refine qk1_ ?_ NB124_126.out _;(with_reducible repeat (first|refine qf_ ?_ _|refine qi_ ?_|refine qe_ ?_ _));exact BK124.out) hb);have n1_:=aK (qm_ (g:=gb125) (o:=.cells #[.string (⟨#[]⟩:ByteArray),.int .i64 0,.int .i64 0] 79 (0,0)) (by (with_reducible repeat (first|refine qf_ ?_ _|refine qi_ ?_|refine qe_ ?_ _));refine qk1_ ?_ NB125_126.out _;(with_reducible repeat (first|refine qf_ ?_ _|refine qi_ ?_|refine qe_ ?_ _));exact BK125.out) hb);have n2_:=aK (qm_ (g:=gb126) (o:=.cells #[.string a0_0,.int .i64 0,.int .i64 0] 79 (0,0)) (by (with_reducible repeat (first|refine qf_ ?_ _|refine qi_ ?_|refine qe_ ?_ _));refine qi1_ (cs:=#[.string (⟨#[]⟩:ByteArray),.int .i64 0,.int .i64 0]) ?_ 0 _ rfl;(with_reducible repeat (first|refine qf_ ?_ _|refine qi_ ?_|refine qe_ ?_ _));exact BK126.out) hb);have n3_:=aK (qj_ (by repeat (first|(with_reducible first|exact HB.out|apply qb_|apply qa_|apply qc_|refine qh_ ?_ GE124.out|refine qh_ ?_ GE125.out|refine qh_ ?_ GE126.out)|exact HB.out)) hb);clear BK124;clear BK125;clear BK126;clear HB;have BK124:=n0_;have BK125:=n1_;have BK126:=n2_;have HB:=n3_;clear n0_ n1_ n2_ n3_;(try clear hb);(try clear hb2);(try clear hk);(try clear hi);have hcz12_0:w11.cell? ⟨gb126,0,none⟩=some (.string a0_0):=(qg_ BK126.out 0).trans rfl;have hcz12_1:w11.cell? ⟨gb126,1,none⟩=some (.int .i64 0):=(qg_ BK126.out 1).trans rfl;have hcz12_2:w11.cell? ⟨gb126,2,none⟩=some (.int .i64 0):=(qg_ BK126.out 2).trans rfl;have hfz12_0:=qd_ BK126.out 0;have hfz12_1:=qd_ BK126.out 1;have hfz12_2:=qd_ BK126.out 2;have hcz13_0:w11.cell? ⟨gb125,0,none⟩=some (.string (⟨#[]⟩:ByteArray)):=(qg_ BK125.out 0).trans rfl;have hcz13_1:w11.cell? ⟨gb125,1,none⟩=some (.int .i64 0):=(qg_ BK125.out 1).trans rfl;have hcz13_2:w11.cell? ⟨gb125,2,none⟩=some (.int .i64 0):=(qg_ BK125.out 2).trans rfl;have hfz13_0:=qd_ BK125.out 0;have hfz13_1:=qd_ BK125.out 1;have hfz13_2:=qd_ BK125.out 2))
 refine bodyPost_ret (results_cell_row rfl _ _ gb125 79 #[.string a0_0,.int .i64 t127,.int .i64 t128] (0,0) _ rfl (by (with_reducible repeat (first|refine qf_ ?_ _|refine qi_ ?_|refine qe_ ?_ _));refine qi1_ (cs:=#[.string a0_0,.int .i64 t127,.int .i64 0]) ?_ 2 _ rfl;(with_reducible repeat (first|refine qf_ ?_ _|refine qi_ ?_|refine qe_ ?_ _));refine qi1_ (cs:=#[.string a0_0,.int .i64 0,.int .i64 0]) ?_ 1 _ rfl;(with_reducible repeat (first|refine qf_ ?_ _|refine qi_ ?_|refine qe_ ?_ _));refine qi1_ (cs:=#[.string (⟨#[]⟩:ByteArray),.int .i64 0,.int .i64 0]) ?_ 0 _ rfl;(with_reducible repeat (first|refine qf_ ?_ _|refine qi_ ?_|refine qe_ ?_ _));refine qk1_ ?_ NB125_126.out _;(with_reducible repeat (first|refine qf_ ?_ _|refine qi_ ?_|refine qe_ ?_ _));refine qk1_ ?_ NB125_126.out _;(with_reducible repeat (first|refine qf_ ?_ _|refine qi_ ?_|refine qe_ ?_ _));exact BK125.out) Try.underlying79 rfl (by kernel_rfl)) rfl ?_
 exact ⟨by first|rfl|(simp [qo_,qn_] <;> rfl)|(simp [*,qo_,qn_] <;> rfl),by repeat (first|(with_reducible first|exact HB.out|apply qb_|apply qa_|apply qc_|refine qh_ ?_ GE124.out|refine qh_ ?_ GE125.out|refine qh_ ?_ GE126.out)|exact HB.out)⟩
end Go.Proofs.Ytaiefdhenikiiaa.Base
namespace Go.Proofs.Ytaiefdhenikiiaa.Base
open Go.RowKit Go.Proofs.YtaiefdhenikiiaaW.PrintWords Go.Proofs.YtaiefdhenikiiaaW.PrintLast Go.Proofs.YtaiefdhenikiiaaW.PrintMore
attribute [local go_sem] max2_int qo1_ max_two min_two max_three min_three max_four min_four Go.Proofs.YtaiefdhenikiiaaZ.qx_   -- for this text's walks alone
set_option linter.unusedVariables false
set_option linter.unusedSimpArgs false
def ql1_.l0:Nat→List (S75)→List (S79)→Int→Option ((List (S79)))
 | 0,_,_,_=>none
 | k+1,x0,x3,x4=>if x4 < (x0.length:Int) then (if 0≤x4 then ((laws_toTerm.f ((rd_T75 x0 x4).f0) ((rd_T75 x0 x4).f1.f0) ((rd_T75 x0 x4).f1.f1)).bind fun bt133=>(if x4 < (x3.length:Int) then (ql1_.l0 k x0 (x3.set (x4:Int).toNat (⟨bt133.1,(⟨bt133.2.1,bt133.2.2⟩:S77)⟩:S79)) (wrap64 (x4+1))) else (none))) else (none)) else (some x3)
def ql1_.f (k:Nat) (l0:List (S75)):Option ((List (S79))):=if 0≤(l0.length:Int) then (if ((l0.length:Int):Int).toNat≤8796093022208 then (ql1_.l0 k l0 (List.replicate ((l0.length:Int):Int).toNat z79) 0) else (none)) else (none)
theorem ql1_.mono_l:∀ k,(∀ y0 y1 y2,LeO (ql1_.l0 k y0 y1 y2) (ql1_.l0 (k+1) y0 y1 y2))
 | 0=>fun _ _ _ r h=>by simp [ql1_.l0] at h
 | k+1=>by
  have ih0:=ql1_.mono_l k
  ·intro y0 y1 y2
   unfold ql1_.l0
   repeat' first
   | (with_reducible exact ih0 _ _ _)
   | (with_reducible exact LeO.refl _)
   | (with_reducible exact LeO.none _)
   | (with_reducible refine LeO.ite ?_ ?_)
   | (with_reducible refine LeO.bind ?_ (fun _=>?_))
   | exact ih0 _ _ _
   | exact LeO.none _
   | refine LeO.ite ?_ ?_
   | refine LeO.bind ?_ (fun _=>?_)
theorem ql1_.mono:∀ a0 k,LeO (ql1_.f k a0) (ql1_.f (k+1) a0):=by
 intro a0 k
 have ih0:=ql1_.mono_l k
 unfold ql1_.f
 repeat' first
   | (with_reducible exact ih0 _ _ _)
   | (with_reducible exact LeO.refl _)
   | (with_reducible exact LeO.none _)
   | (with_reducible refine LeO.ite ?_ ?_)
   | (with_reducible refine LeO.bind ?_ (fun _=>?_))
   | exact ih0 _ _ _
   | exact LeO.none _
   | refine LeO.ite ?_ ?_
   | refine LeO.bind ?_ (fun _=>?_)
set_option maxHeartbeats 8000000 in
set_option maxRecDepth 100000 in
theorem ql1_.calls (k:Nat) (A0:Option Addr) (c0:Nat) (l0:List (S75)) (r:List (S79)) (w:World) (hr0:Kd.C k75 w A0 l0.length l0) (hc0:l0.length≤c0) (h:ql1_.f k l0=some r) :
  Calls Try.prog 23 #[.slice A0 l0.length c0] w fun e w'=>∃ v0_:Value,e=.returned (v0_)∧Kd.R k79 79 w' w.heap.size (fun _=>True) v0_ r∧Below w.heap.size w w':=by
 have hu75:=Try.underlying75
 have hu79:=Try.underlying79
 have HR0:=aK hr0
 have HC0:=aK hc0
 clear hr0 hc0
 have HB:=aK (Below.refl w.heap.size w)
 have H:(if 0≤(l0.length:Int) then (if ((l0.length:Int):Int).toNat≤8796093022208 then (ql1_.l0 k l0 (List.replicate ((l0.length:Int):Int).toNat z79) 0) else (none)) else (none))=some r:=h
 clear h
 by_cases c2:0≤(l0.length:Int)
 ·rw [if_pos c2] at H
  have c2b0:=eq_true c2
  have c2b1:decide (0≤(l0.length:Int))=true:=decide_eq_true c2
  clear c2
  by_cases c3:((l0.length:Int):Int).toNat≤8796093022208
  ·rw [if_pos c3] at H
   have c3b0:=eq_true c3
   have c3b1:decide (((l0.length:Int):Int).toNat≤8796093022208)=true:=decide_eq_true c3
   clear c3
   obtain ⟨y129,hy129⟩:∃ y_:List (S79),y_=(List.replicate ((l0.length:Int):Int).toNat z79):=⟨_,rfl⟩
   replace H:(ql1_.l0 k l0 y129 0)=some r:=by first|(rw [hy129];with_reducible exact H)|(have H2_:=(Option.bind_some _ _).symm.trans H;rw [hy129];with_reducible exact H2_)|(have H2_:=(Option.bind_some _ _).symm.trans H;with_reducible exact H2_)|with_reducible exact H|(rw [hy129];exact H)|exact H
   have Ny129:=aK hy129
   clear hy129
   have H':=aK H
   clear H
   go_enter Try.func23,Try.ntmps23
   go_wp2_with (first|((with_reducible refine qu_ (N:=7) rfl ?_);refine Kd.R_make k79 _ 79 rfl (N:=7) rfl 24 _ _ rfl (l0.length:Int) rfl rfl Try.underlying24 (.agg #[(.string ⟨#[]⟩),(.int .i64 0),(.int .i64 0)]) 32 info79 rfl (by decide) (by omega) z79 (ok:=fun _=>True) (okp:=fun _=>True) (k79_mkM _ _ _ z79 ) (fun _ hk=>hk) trivial (of_decide_eq_true (by first|(with_reducible assumption)|assumption)) (Nat.le_trans (Nat.mul_le_mul_right _ (of_decide_eq_true (by first|(with_reducible assumption)|assumption):(l0.length:Int).toNat≤8796093022208)) (by omega)) (Below.refl _ _) (Nat.le_refl _) ?_;intro v130 w4 ho5 hb hg_ hnew_;clear hg_ hnew_;(first|rw [← Ny129.out] at ho5|(simp only [Int.reduceToNat] at ho5;rw [← Ny129.out] at ho5));have n0_:=aK (Kd.qn2_ ho5 (qk_ (by repeat (first|(with_reducible first|exact HB.out|apply qb_|apply qa_|apply qc_)|exact HB.out))));have n1_:=aK (qj_ (by repeat (first|(with_reducible first|exact HB.out|apply qb_|apply qa_|apply qc_)|exact HB.out)) hb);clear HB;have HO131:=n0_;have HB:=n1_;clear n0_ n1_;clear hb ho5))
   go_loopg [4] k (fun kq v4 w'=>∃ (x3_1:List (S79)) (x4_1:Int),v4=.int .i64 x4_1∧Aside0 (ql1_.l0 kq l0 x3_1 x4_1=some r)∧Aside0 (kq≤k)∧Aside0 (Kd.R k79 79 w' w.heap.size (fun _=>True) v130 x3_1)∧Aside0 (Below w.heap.size w w'))
   case atStart=>exact ⟨(y129),(0),(by first|rfl|(simp;done)|(simp [*];done)),H',⟨Nat.le_refl _⟩,⟨by (with_reducible repeat (first|apply Kd.qp1_|apply Kd.qu1_|apply Kd.R_drew));exact HO131.out⟩,⟨by repeat (first|(with_reducible first|exact HB.out|apply qb_|apply qa_|apply qc_)|exact HB.out)⟩⟩
   case round =>
    clear H'
    try clear c2
    try clear c2b0
    try clear c2b1
    try clear p2
    try clear c3
    try clear c3b0
    try clear c3b1
    obtain ⟨x3_1,x4_1,rfl,HA,HK1,HO_3,HB⟩:=hrel
    cases gk with
    | zero=>exact absurd HA.out (by simp [ql1_.l0])
    | succ k1 =>
     have H:=HA.out
     clear HA
     simp only [ql1_.l0] at H
     by_cases c6:x4_1 < (l0.length:Int)
     ·rw [if_pos c6] at H
      have c6b0:decide (x4_1 < (l0.length:Int))=true:=decide_eq_true c6
      clear c6
      by_cases c7:0≤x4_1
      ·rw [if_pos c7] at H
       have c7b0:decide (0≤x4_1)=true:=decide_eq_true c7
       clear c7
       replace H:=Option.bind_eq_some_iff.mp H
       obtain ⟨⟨t133,t134,t135⟩,A80,H⟩:=H
       replace H:(if x4_1 < (x3_1.length:Int) then (ql1_.l0 k1 l0 (x3_1.set (x4_1:Int).toNat (⟨t133,(⟨t134,t135⟩:S77)⟩:S79)) (wrap64 (x4_1+1))) else (none))=some r:=H
       have A8:=aK A80
       clear A80
       by_cases c9:x4_1 < (x3_1.length:Int)
       ·rw [if_pos c9] at H
        have c9b0:decide (x4_1 < (x3_1.length:Int))=true:=decide_eq_true c9
        clear c9
        obtain ⟨y136,hy136⟩:∃ y_:List (S79),y_=(x3_1.set (x4_1:Int).toNat (⟨t133,(⟨t134,t135⟩:S77)⟩:S79)):=⟨_,rfl⟩
        replace H:(ql1_.l0 k1 l0 y136 (wrap64 (x4_1+1)))=some r:=by first|(rw [hy136];with_reducible exact H)|(have H2_:=(Option.bind_some _ _).symm.trans H;rw [hy136];with_reducible exact H2_)|(have H2_:=(Option.bind_some _ _).symm.trans H;with_reducible exact H2_)|with_reducible exact H|(rw [hy136];exact H)|exact H
        have Ny136:=aK hy136
        clear hy136
        have H':=aK H
        clear H
        have p132:0≤(x4_1:Int):=of_decide_eq_true (by first|(with_reducible assumption)|assumption)
        have q132:x4_1 < (l0.length:Int):=of_decide_eq_true (by first|(with_reducible assumption)|assumption)
        obtain ⟨ad132,e132,hx132_0,hx132_1,hx132_2⟩:=at_T75 HR0.out x4_1 p132 q132
        cases e132
        replace hx132_0:=(HB.out.cell (World.block_lt_of_cell? w _ hx132_0)).trans hx132_0
        replace hx132_1:=(HB.out.cell (World.block_lt_of_cell? w _ hx132_1)).trans hx132_1
        replace hx132_2:=(HB.out.cell (World.block_lt_of_cell? w _ hx132_2)).trans hx132_2
        replace p132:=eq_true p132
        replace q132:=eq_true q132
        go_wp2_with (first|((with_reducible refine qa1_ (f:=77) rfl ?_);refine goesL_ (some 20) rfl rfl Try.func77 (by kernel_rfl) rfl #[.agg #[.string ((rd_T75 l0 x4_1).f0),.int .i64 ((rd_T75 l0 x4_1).f1.f0),.int .i64 ((rd_T75 l0 x4_1).f1.f1)]] rfl (by (try simp only [List.map_toArray,List.map_cons,List.map_nil]);first|done|rfl|(simp only [List.length_drop,List.length_take];rfl)) ?_;(with_reducible refine (laws_toTerm.calls ((rd_T75 l0 x4_1).f0) ((rd_T75 l0 x4_1).f1.f0) ((rd_T75 l0 x4_1).f1.f1) t133 t134 t135 _ A8.out).mono ?_);rintro e w11 ⟨rfl,hb⟩;refine ⟨_,rfl,?_⟩;have n0_:=aK (Kd.qm2_ (by (with_reducible repeat (first|apply Kd.qp1_|apply Kd.qu1_|apply Kd.R_drew));exact HO_3.out) hb);have n1_:=aK (qj_ (by repeat (first|(with_reducible first|exact HB.out|apply qb_|apply qa_|apply qc_)|exact HB.out)) hb);clear HO_3;clear HB;have HO_3:=n0_;have HB:=n1_;clear n0_ n1_;(try clear hb);(try clear hb2);(try clear hk);(try clear hi);have p10:0≤(x4_1:Int):=of_decide_eq_true (by first|(with_reducible assumption)|assumption);have q10:(x4_1:Int) < ((x3_1.length:Int):Int):=of_decide_eq_true (by first|(with_reducible assumption)|assumption);obtain ⟨go10,co10,eo10,gb10,gl10,cl10,HG10⟩:=Kd.R_form HO_3.out (by omega);(first|cases eo10|(injection eo10 with ea_ en_ ec_;(first|subst ea_|(injection ea_ with ea_;subst ea_));subst ec_;clear en_));have GB10:=aK gb10;have GG10:=aK HG10;clear gb10 gl10 HG10;obtain ⟨ce10,hcl10,hM10,hcc10,hfr10⟩:=Kd.R_elem HO_3.out z79 (x4_1:Int) p10 q10;obtain rfl:=k79_openM hM10;have hx10_0:w11.cell? ⟨go10,(x4_1:Int).toNat * 3,none⟩=some (.string ((rd_T79 x3_1 x4_1).f0)):=hcc10 0 _ rfl;have hx10_1:w11.cell? ⟨go10,(x4_1:Int).toNat * 3+1,none⟩=some (.int .i64 ((rd_T79 x3_1 x4_1).f1.f0)):=hcc10 1 _ rfl;have hx10_2:w11.cell? ⟨go10,(x4_1:Int).toNat * 3+2,none⟩=some (.int .i64 ((rd_T79 x3_1 x4_1).f1.f1)):=hcc10 2 _ rfl;have hf10_0:w11.frozen? ⟨go10,(x4_1:Int).toNat * 3,none⟩=false:=hfr10 0;have hf10_1:w11.frozen? ⟨go10,(x4_1:Int).toNat * 3+1,none⟩=false:=hfr10 1;have hf10_2:w11.frozen? ⟨go10,(x4_1:Int).toNat * 3+2,none⟩=false:=hfr10 2;(try clear hcl10);(try clear hcc10);(try clear hfr10);(try clear hM10);replace p10:=eq_true p10;replace q10:=eq_true q10;have HX12:=aK (show Kd.R k79 79 w11 w.heap.size (fun _=>True) (.slice (some ⟨go10,0,none⟩) x3_1.length co10) x3_1 from (by (with_reducible repeat (first|apply Kd.qp1_|apply Kd.qu1_|apply Kd.R_drew));exact HO_3.out));obtain ⟨ce12,hcl12,hM12,hcc12,hfr12⟩:=Kd.R_elem HX12.out z79 (x4_1:Int) (of_decide_eq_true (by first|(with_reducible assumption)|assumption)) (by have h_:(x4_1:Int) < ((x3_1.length:Int):Int):=of_decide_eq_true (by first|(with_reducible assumption)|assumption);first|exact h_|(have e_:=(Kd.qg3_ HO_3.out).1;omega)|simpa using h_);obtain rfl:=k79_openM hM12;have HP12:=Kd.R_seg HX12.out (x4_1:Int) (of_decide_eq_true (by first|(with_reducible assumption)|assumption)) (by have h_:(x4_1:Int) < ((x3_1.length:Int):Int):=of_decide_eq_true (by first|(with_reducible assumption)|assumption);first|exact h_|(have e_:=(Kd.qg3_ HO_3.out).1;omega)|simpa using h_) (seg:=[.string t133,.int .i64 t134,.int .i64 t135]) (j:=0) hcl12 hcc12 (show 3≤3 from by decide) (x':=(⟨t133,(⟨t134,t135⟩:S77)⟩:S79)) (k79_mkM _ _ _ (⟨t133,(⟨t134,t135⟩:S77)⟩:S79) ) (fun _ hk=>hk);have hx12_0:=hcc12 0 _ rfl;(try simp only [show (k79).sz=3 from rfl,Nat.mul_one,Nat.add_zero] at hx12_0);have hf12_0:=hfr12 0;(try simp only [show (k79).sz=3 from rfl,Nat.mul_one,Nat.add_zero] at hf12_0);have hx12_1:=hcc12 1 _ rfl;(try simp only [show (k79).sz=3 from rfl,Nat.mul_one,Nat.add_zero] at hx12_1);have hf12_1:=hfr12 1;(try simp only [show (k79).sz=3 from rfl,Nat.mul_one,Nat.add_zero] at hf12_1);have hx12_2:=hcc12 2 _ rfl;(try simp only [show (k79).sz=3 from rfl,Nat.mul_one,Nat.add_zero] at hx12_2);have hf12_2:=hfr12 2;(try simp only [show (k79).sz=3 from rfl,Nat.mul_one,Nat.add_zero] at hf12_2);(try clear hcl12);(try clear hcc12);(try clear hfr12);(try clear hM12))|((with_reducible refine gate_store (t:=79) (p:=21) rfl ?_);refine store_event (t:=79) (p:=21) (v:=?vo_w13) (w1:=(((w11.setCell ⟨go10,(x4_1:Int).toNat * 3,none⟩ (.string t133)).setCell ⟨go10,(x4_1:Int).toNat * 3+1,none⟩ (.int .i64 t134)).setCell ⟨go10,(x4_1:Int).toNat * 3+2,none⟩ (.int .i64 t135))) ?hg ?ho ?hn ?hr ?_;(case ho=>rfl);(case hg=>rfl);(case hn=>rfl);(case hr=>first|(go_simp;done)|(go_simp;rfl));intro w13 hw;have hg:w11.grownBy w13 (some go10):=(by rw [hw];exact HP12.2);have hp_:Kd.R k79 79 w13 w.heap.size (fun _=>True) (.slice (some ⟨go10,0,none⟩) x3_1.length co10) y136:=(by rw [hw,Ny136.out];exact HP12.1);clear HP12;have n0_:=aK (hp_);have n1_:=aK ((by rw [hw];exact qh_ (qh_ (qh_ (HB.out) GB10.out) GB10.out) GB10.out:Below w.heap.size w w13));clear HO_3;clear HB;have HO_3:=n0_;have HB:=n1_;clear n0_ n1_;clear hg hw hp_))
        go_roundg k1
        case measure=>have:=HK1.out;omega
        case rel=>exact ⟨(y136),(wrap64 (x4_1+1)),(by first|rfl|(simp;done)|(simp [*];done)),H',⟨by have:=HK1.out;omega⟩,⟨by (with_reducible repeat (first|apply Kd.qp1_|apply Kd.qu1_|apply Kd.R_drew));exact HO_3.out⟩,⟨by repeat (first|(with_reducible first|exact HB.out|apply qb_|apply qa_|apply qc_)|exact HB.out)⟩⟩
       ·rw [if_neg c9] at H
        exact absurd H (by simp)
      ·rw [if_neg c7] at H
       exact absurd H (by simp)
     ·rw [if_neg c6] at H
      have c6b0:decide (x4_1 < (l0.length:Int))=false:=decide_eq_false c6
      clear c6
      obtain rfl:=Option.some.inj H
      go_wp2
      go_ret
      exact ⟨_,by first|rfl|(simp [qo_,qn_] <;> rfl)|(simp [*,qo_,qn_] <;> rfl),by (with_reducible repeat (first|apply Kd.qp1_|apply Kd.qu1_|apply Kd.R_drew));exact HO_3.out,by repeat (first|(with_reducible first|exact HB.out|apply qb_|apply qa_|apply qc_)|exact HB.out)⟩
  ·rw [if_neg c3] at H
   exact absurd H (by simp)
 ·rw [if_neg c2] at H
  exact absurd H (by simp)
end Go.Proofs.Ytaiefdhenikiiaa.Base
namespace Go.Proofs.Ytaiefdhenikiiaa.Base
open Go.RowKit Go.Proofs.YtaiefdhenikiiaaW.PrintWords Go.Proofs.YtaiefdhenikiiaaW.PrintLast Go.Proofs.YtaiefdhenikiiaaW.PrintMore
attribute [local go_sem] max2_int qo1_ max_two min_two max_three min_three max_four min_four Go.Proofs.YtaiefdhenikiiaaZ.qx_   -- for this text's walks alone
set_option linter.unusedVariables false
set_option linter.unusedSimpArgs false
def qw2_.f (a0_0:Int) (a0_1:Int) (a1_0:Int) (a1_1:Int):Option (Bool):=if a0_0=a1_0 then (if a0_1=a1_1 then (some true) else (some false)) else (some false)
set_option maxHeartbeats 8000000 in
set_option maxRecDepth 100000 in
theorem qw2_.calls (a0_0:Int) (a0_1:Int) (a1_0:Int) (a1_1:Int) (r:Bool) (w:World) (h:qw2_.f a0_0 a0_1 a1_0 a1_1=some r) :
  Calls Try.prog 157 #[.agg #[.int .i64 a0_0,.int .i64 a0_1],.agg #[.int .i64 a1_0,.int .i64 a1_1]] w fun e w'=>e=.returned (.bool r)∧Below w.heap.size w w':=by
 have hu77:=Try.underlying77
 have HB:=aK (Below.refl w.heap.size w)
 have H:(if a0_0=a1_0 then (if a0_1=a1_1 then (some true) else (some false)) else (some false))=some r:=h
 clear h
 by_cases c3:a0_0=a1_0
 ·rw [if_pos c3] at H
  have c3b0:(a0_0 == a1_0)=true:=beq_iff_eq.mpr c3
  have c3b1:(a0_0 != a1_0)=false:=bne_eq_false_iff_eq.mpr c3
  clear c3
  by_cases c4:a0_1=a1_1
  ·rw [if_pos c4] at H
   have c4b0:(a0_1 == a1_1)=true:=beq_iff_eq.mpr c4
   have c4b1:(a0_1 != a1_1)=false:=bne_eq_false_iff_eq.mpr c4
   clear c4
   obtain rfl:=Option.some.inj H
   go_enter Try.func157,Try.ntmps157
   go_wp2_with (first|((with_reducible refine qu_ (N:=2) rfl ?_);refine qr_ ?hg (N:=2) ?hd (cs:=#[.int .i64 a0_0,.int .i64 a0_1]) (t:=77) ?hr ?_;(case hd=>rfl);(case hg=>rfl);(case hr=>first|(go_simp;done)|(go_simp;rfl));intro gb153 hg w5 hbox hb;have n0_:=aK (qj_ (by repeat (first|(with_reducible first|exact HB.out|apply qb_|apply qa_|apply qc_)|exact HB.out)) hb);have n1_:=aK (hbox);have n2_:=aK ((by rw [hg];exact (qk_ (by repeat (first|(with_reducible first|exact HB.out|apply qb_|apply qa_|apply qc_)|exact HB.out))):w.heap.size≤gb153));have n3_:=aK ((by rw [hg];exact (qk_ (by repeat (first|(with_reducible first|exact HB.out|apply qb_|apply qa_|apply qc_)|exact HB.out))):w.heap.size≤gb153));clear HB;have HB:=n0_;have BK153:=n1_;have GW153:=n2_;have GE153:=n3_;clear n0_ n1_ n2_ n3_;clear hb hbox hg)|((with_reducible refine qu_ (N:=3) rfl ?_);refine qr_ ?hg (N:=3) ?hd (cs:=#[.int .i64 a1_0,.int .i64 a1_1]) (t:=77) ?hr ?_;(case hd=>rfl);(case hg=>rfl);(case hr=>first|(go_simp;done)|(go_simp;rfl));intro gb154 hg w6 hbox hb;have n0_:=aK (qm_ (g:=gb153) (o:=.cells #[.int .i64 a0_0,.int .i64 a0_1] 77 (0,0)) (by (with_reducible repeat (first|refine qf_ ?_ _|refine qi_ ?_|refine qe_ ?_ _));exact BK153.out) hb);have n1_:=aK (qj_ (by repeat (first|(with_reducible first|exact HB.out|apply qb_|apply qa_|apply qc_|refine qh_ ?_ GE153.out)|exact HB.out)) hb);have n2_:=aK (hbox);have n3_:=aK ((by rw [hg];exact (qk_ (by repeat (first|(with_reducible first|exact HB.out|apply qb_|apply qa_|apply qc_|refine qh_ ?_ GE153.out)|exact HB.out))):w.heap.size≤gb154));have n4_:=aK ((by rw [hg];exact (qk_ (by repeat (first|(with_reducible first|exact HB.out|apply qb_|apply qa_|apply qc_|refine qh_ ?_ GE153.out)|exact HB.out))):w.heap.size≤gb154));have n5_:=aK ((by rw [hg];exact Nat.ne_of_lt (blk_lt (g:=gb153) (o:=.cells #[.int .i64 a0_0,.int .i64 a0_1] 77 (0,0)) (by (with_reducible repeat (first|refine qf_ ?_ _|refine qi_ ?_|refine qe_ ?_ _));exact BK153.out)):gb153 ≠ gb154));have n6_:=aK ((by rw [hg];exact Nat.ne_of_gt (blk_lt (g:=gb153) (o:=.cells #[.int .i64 a0_0,.int .i64 a0_1] 77 (0,0)) (by (with_reducible repeat (first|refine qf_ ?_ _|refine qi_ ?_|refine qe_ ?_ _));exact BK153.out)):gb154 ≠ gb153));clear BK153;clear HB;have BK153:=n0_;have HB:=n1_;have BK154:=n2_;have GW154:=n3_;have GE154:=n4_;have NB153_154:=n5_;have NB154_153:=n6_;clear n0_ n1_ n2_ n3_ n4_ n5_ n6_;clear hb hbox hg;have hnb7:=NB153_154.out;have hnc7:=NB154_153.out;have hcz8_0:w6.cell? ⟨gb153,0,none⟩=some (.int .i64 a0_0):=(qg_ BK153.out 0).trans rfl;have hcz8_1:w6.cell? ⟨gb153,1,none⟩=some (.int .i64 a0_1):=(qg_ BK153.out 1).trans rfl;have hfz8_0:=qd_ BK153.out 0;have hfz8_1:=qd_ BK153.out 1;have hcz9_0:w6.cell? ⟨gb154,0,none⟩=some (.int .i64 a1_0):=(qg_ BK154.out 0).trans rfl;have hcz9_1:w6.cell? ⟨gb154,1,none⟩=some (.int .i64 a1_1):=(qg_ BK154.out 1).trans rfl;have hfz9_0:=qd_ BK154.out 0;have hfz9_1:=qd_ BK154.out 1))
   go_ret
   exact ⟨by first|rfl|(simp [qo_,qn_] <;> rfl)|(simp [*,qo_,qn_] <;> rfl),by repeat (first|(with_reducible first|exact HB.out|apply qb_|apply qa_|apply qc_|refine qh_ ?_ GE153.out|refine qh_ ?_ GE154.out)|exact HB.out)⟩
  ·rw [if_neg c4] at H
   have c4b0:(a0_1 == a1_1)=false:=beq_eq_false_iff_ne.mpr c4
   have c4b1:(a0_1 != a1_1)=true:=bne_iff_ne.mpr c4
   obtain rfl:=Option.some.inj H
   go_enter Try.func157,Try.ntmps157
   go_wp2_with (first|((with_reducible refine qu_ (N:=2) rfl ?_);refine qr_ ?hg (N:=2) ?hd (cs:=#[.int .i64 a0_0,.int .i64 a0_1]) (t:=77) ?hr ?_;(case hd=>rfl);(case hg=>rfl);(case hr=>first|(go_simp;done)|(go_simp;rfl));intro gb153 hg w10 hbox hb;have n0_:=aK (qj_ (by repeat (first|(with_reducible first|exact HB.out|apply qb_|apply qa_|apply qc_)|exact HB.out)) hb);have n1_:=aK (hbox);have n2_:=aK ((by rw [hg];exact (qk_ (by repeat (first|(with_reducible first|exact HB.out|apply qb_|apply qa_|apply qc_)|exact HB.out))):w.heap.size≤gb153));have n3_:=aK ((by rw [hg];exact (qk_ (by repeat (first|(with_reducible first|exact HB.out|apply qb_|apply qa_|apply qc_)|exact HB.out))):w.heap.size≤gb153));clear HB;have HB:=n0_;have BK153:=n1_;have GW153:=n2_;have GE153:=n3_;clear n0_ n1_ n2_ n3_;clear hb hbox hg)|((with_reducible refine qu_ (N:=3) rfl ?_);refine qr_ ?hg (N:=3) ?hd (cs:=#[.int .i64 a1_0,.int .i64 a1_1]) (t:=77) ?hr ?_;(case hd=>rfl);(case hg=>rfl);(case hr=>first|(go_simp;done)|(go_simp;rfl));intro gb154 hg w11 hbox hb;have n0_:=aK (qm_ (g:=gb153) (o:=.cells #[.int .i64 a0_0,.int .i64 a0_1] 77 (0,0)) (by (with_reducible repeat (first|refine qf_ ?_ _|refine qi_ ?_|refine qe_ ?_ _));exact BK153.out) hb);have n1_:=aK (qj_ (by repeat (first|(with_reducible first|exact HB.out|apply qb_|apply qa_|apply qc_|refine qh_ ?_ GE153.out)|exact HB.out)) hb);have n2_:=aK (hbox);have n3_:=aK ((by rw [hg];exact (qk_ (by repeat (first|(with_reducible first|exact HB.out|apply qb_|apply qa_|apply qc_|refine qh_ ?_ GE153.out)|exact HB.out))):w.heap.size≤gb154));have n4_:=aK ((by rw [hg];exact (qk_ (by repeat (first|(with_reducible first|exact HB.out|apply qb_|apply qa_|apply qc_|refine qh_ ?_ GE153.out)|exact HB.out))):w.heap.size≤gb154));have n5_:=aK ((by rw [hg];exact Nat.ne_of_lt (blk_lt (g:=gb153) (o:=.cells #[.int .i64 a0_0,.int .i64 a0_1] 77 (0,0)) (by (with_reducible repeat (first|refine qf_ ?_ _|refine qi_ ?_|refine qe_ ?_ _));exact BK153.out)):gb153 ≠ gb154));have n6_:=aK ((by rw [hg];exact Nat.ne_of_gt (blk_lt (g:=gb153) (o:=.cells #[.int .i64 a0_0,.int .i64 a0_1] 77 (0,0)) (by (with_reducible repeat (first|refine qf_ ?_ _|refine qi_ ?_|refine qe_ ?_ _));exact BK153.out)):gb154 ≠ gb153));clear BK153;clear HB;have BK153:=n0_;have HB:=n1_;have BK154:=n2_;have GW154:=n3_;have GE154:=n4_;have NB153_154:=n5_;have NB154_153:=n6_;clear n0_ n1_ n2_ n3_ n4_ n5_ n6_;clear hb hbox hg;have hnb12:=NB153_154.out;have hnc12:=NB154_153.out;have hcz13_0:w11.cell? ⟨gb153,0,none⟩=some (.int .i64 a0_0):=(qg_ BK153.out 0).trans rfl;have hcz13_1:w11.cell? ⟨gb153,1,none⟩=some (.int .i64 a0_1):=(qg_ BK153.out 1).trans rfl;have hfz13_0:=qd_ BK153.out 0;have hfz13_1:=qd_ BK153.out 1;have hcz14_0:w11.cell? ⟨gb154,0,none⟩=some (.int .i64 a1_0):=(qg_ BK154.out 0).trans rfl;have hcz14_1:w11.cell? ⟨gb154,1,none⟩=some (.int .i64 a1_1):=(qg_ BK154.out 1).trans rfl;have hfz14_0:=qd_ BK154.out 0;have hfz14_1:=qd_ BK154.out 1))
   go_ret
   exact ⟨by first|rfl|(simp [qo_,qn_] <;> rfl)|(simp [*,qo_,qn_] <;> rfl),by repeat (first|(with_reducible first|exact HB.out|apply qb_|apply qa_|apply qc_|refine qh_ ?_ GE153.out|refine qh_ ?_ GE154.out)|exact HB.out)⟩
 ·rw [if_neg c3] at H
  have c3b0:(a0_0 == a1_0)=false:=beq_eq_false_iff_ne.mpr c3
  have c3b1:(a0_0 != a1_0)=true:=bne_iff_ne.mpr c3
  obtain rfl:=Option.some.inj H
  go_enter Try.func157,Try.ntmps157
  go_wp2_with (first|((with_reducible refine qu_ (N:=2) rfl ?_);refine qr_ ?hg (N:=2) ?hd (cs:=#[.int .i64 a0_0,.int .i64 a0_1]) (t:=77) ?hr ?_;(case hd=>rfl);(case hg=>rfl);(case hr=>first|(go_simp;done)|(go_simp;rfl));intro gb153 hg w15 hbox hb;have n0_:=aK (qj_ (by repeat (first|(with_reducible first|exact HB.out|apply qb_|apply qa_|apply qc_)|exact HB.out)) hb);have n1_:=aK (hbox);have n2_:=aK ((by rw [hg];exact (qk_ (by repeat (first|(with_reducible first|exact HB.out|apply qb_|apply qa_|apply qc_)|exact HB.out))):w.heap.size≤gb153));have n3_:=aK ((by rw [hg];exact (qk_ (by repeat (first|(with_reducible first|exact HB.out|apply qb_|apply qa_|apply qc_)|exact HB.out))):w.heap.size≤gb153));clear HB;have HB:=n0_;have BK153:=n1_;have GW153:=n2_;have GE153:=n3_;clear n0_ n1_ n2_ n3_;clear hb hbox hg)|((with_reducible refine qu_ (N:=3) rfl ?_);refine qr_ ?hg (N:=3) ?hd (cs:=#[.int .i64 a1_0,.int .i64 a1_1]) (t:=77) ?hr ?_;(case hd=>rfl);(case hg=>rfl);(case hr=>first|(go_simp;done)|(go_simp;rfl));intro gb154 hg w16 hbox hb;have n0_:=aK (qm_ (g:=gb153) (o:=.cells #[.int .i64 a0_0,.int .i64 a0_1] 77 (0,0)) (by (with_reducible repeat (first|refine qf_ ?_ _|refine qi_ ?_|refine qe_ ?_ _));exact BK153.out) hb);have n1_:=aK (qj_ (by repeat (first|(with_reducible first|exact HB.out|apply qb_|apply qa_|apply qc_|refine qh_ ?_ GE153.out)|exact HB.out)) hb);have n2_:=aK (hbox);have n3_:=aK ((by rw [hg];exact (qk_ (by repeat (first|(with_reducible first|exact HB.out|apply qb_|apply qa_|apply qc_|refine qh_ ?_ GE153.out)|exact HB.out))):w.heap.size≤gb154));have n4_:=aK ((by rw [hg];exact (qk_ (by repeat (first|(with_reducible first|exact HB.out|apply qb_|apply qa_|apply qc_|refine qh_ ?_ GE153.out)|exact HB.out))):w.heap.size≤gb154));have n5_:=aK ((by rw [hg];exact Nat.ne_of_lt (blk_lt (g:=gb153) (o:=.cells #[.int .i64 a0_0,.int .i64 a0_1] 77 (0,0)) (by (with_reducible repeat (first|refine qf_ ?_ _|refine qi_ ?_|refine qe_ ?_ _));exact BK153.out)):gb153 ≠ gb154));have n6_:=aK ((by rw [hg];exact Nat.ne_of_gt (blk_lt (g:=gb153) (o:=.cells #[.int .i64 a0_0,.int .i64 a0_1] 77 (0,0)) (by (with_reducible repeat (first|refine qf_ ?_ _|refine qi_ ?_|refine qe_ ?_ _));exact BK153.out)):gb154 ≠ gb153));clear BK153;clear HB;have BK153:=n0_;have HB:=n1_;have BK154:=n2_;have GW154:=n3_;have GE154:=n4_;have NB153_154:=n5_;have NB154_153:=n6_;clear n0_ n1_ n2_ n3_ n4_ n5_ n6_;clear hb hbox hg;have hnb17:=NB153_154.out;have hnc17:=NB154_153.out;have hcz18_0:w16.cell? ⟨gb153,0,none⟩=some (.int .i64 a0_0):=(qg_ BK153.out 0).trans rfl;have hcz18_1:w16.cell? ⟨gb153,1,none⟩=some (.int .i64 a0_1):=(qg_ BK153.out 1).trans rfl;have hfz18_0:=qd_ BK153.out 0;have hfz18_1:=qd_ BK153.out 1;have hcz19_0:w16.cell? ⟨gb154,0,none⟩=some (.int .i64 a1_0):=(qg_ BK154.out 0).trans rfl;have hcz19_1:w16.cell? ⟨gb154,1,none⟩=some (.int .i64 a1_1):=(qg_ BK154.out 1).trans rfl;have hfz19_0:=qd_ BK154.out 0;have hfz19_1:=qd_ BK154.out 1))
  go_ret
  exact ⟨by first|rfl|(simp [qo_,qn_] <;> rfl)|(simp [*,qo_,qn_] <;> rfl),by repeat (first|(with_reducible first|exact HB.out|apply qb_|apply qa_|apply qc_|refine qh_ ?_ GE153.out|refine qh_ ?_ GE154.out)|exact HB.out)⟩
end Go.Proofs.Ytaiefdhenikiiaa.Base
namespace Go.Proofs.Ytaiefdhenikiiaa.Base
open Go.RowKit Go.Proofs.YtaiefdhenikiiaaW.PrintWords Go.Proofs.YtaiefdhenikiiaaW.PrintLast Go.Proofs.YtaiefdhenikiiaaW.PrintMore
attribute [local go_sem] max2_int qo1_ max_two min_two max_three min_three max_four min_four Go.Proofs.YtaiefdhenikiiaaZ.qx_   -- for this text's walks alone
set_option linter.unusedVariables false
set_option linter.unusedSimpArgs false
def qd3_.f (a0_0:ByteArray) (a0_1:Int) (a0_2:Int) (a1_0:ByteArray) (a1_1:Int) (a1_2:Int):Option (Bool):=if a0_0.toList=a1_0.toList then ((qw2_.f a0_1 a0_2 a1_1 a1_2).bind fun t157=>(if t157=true then (some true) else (some false))) else (some false)
set_option maxHeartbeats 8000000 in
set_option maxRecDepth 100000 in
theorem qd3_.calls (a0_0:ByteArray) (a0_1:Int) (a0_2:Int) (a1_0:ByteArray) (a1_1:Int) (a1_2:Int) (r:Bool) (w:World) (h:qd3_.f a0_0 a0_1 a0_2 a1_0 a1_1 a1_2=some r) :
  Calls Try.prog 80 #[.agg #[.string a0_0,.int .i64 a0_1,.int .i64 a0_2],.agg #[.string a1_0,.int .i64 a1_1,.int .i64 a1_2]] w fun e w'=>e=.returned (.bool r)∧Below w.heap.size w w':=by
 have hu79:=Try.underlying79
 have hu77:=Try.underlying77
 have HB:=aK (Below.refl w.heap.size w)
 have H:(if a0_0.toList=a1_0.toList then ((qw2_.f a0_1 a0_2 a1_1 a1_2).bind fun t157=>(if t157=true then (some true) else (some false))) else (some false))=some r:=h
 clear h
 by_cases c3:a0_0.toList=a1_0.toList
 ·rw [if_pos c3] at H
  have c3b0:(a0_0.toList == a1_0.toList)=true:=beq_iff_eq.mpr c3
  have c3b1:(a0_0.toList != a1_0.toList)=false:=bne_eq_false_iff_eq.mpr c3
  clear c3
  replace H:=Option.bind_eq_some_iff.mp H
  obtain ⟨t157,A40,H⟩:=H
  replace H:(if t157=true then (some true) else (some false))=some r:=H
  have A4:=aK A40
  clear A40
  by_cases c5:t157=true
  ·subst c5
   have H1:(some true)=some r:=by rw [if_pos rfl] at H;exact H
   clear H
   have H:=H1
   clear H1
   obtain rfl:=Option.some.inj H
   go_enter Try.func80,Try.ntmps80
   go_wp2_with (first|((with_reducible refine qu_ (N:=2) rfl ?_);refine qr_ ?hg (N:=2) ?hd (cs:=#[.string a0_0,.int .i64 a0_1,.int .i64 a0_2]) (t:=79) ?hr ?_;(case hd=>rfl);(case hg=>rfl);(case hr=>first|(go_simp;done)|(go_simp;rfl));intro gb155 hg w6 hbox hb;have n0_:=aK (qj_ (by repeat (first|(with_reducible first|exact HB.out|apply qb_|apply qa_|apply qc_)|exact HB.out)) hb);have n1_:=aK (hbox);have n2_:=aK ((by rw [hg];exact (qk_ (by repeat (first|(with_reducible first|exact HB.out|apply qb_|apply qa_|apply qc_)|exact HB.out))):w.heap.size≤gb155));have n3_:=aK ((by rw [hg];exact (qk_ (by repeat (first|(with_reducible first|exact HB.out|apply qb_|apply qa_|apply qc_)|exact HB.out))):w.heap.size≤gb155));clear HB;have HB:=n0_;have BK155:=n1_;have GW155:=n2_;have GE155:=n3_;clear n0_ n1_ n2_ n3_;clear hb hbox hg)|((with_reducible refine qu_ (N:=3) rfl ?_);refine qr_ ?hg (N:=3) ?hd (cs:=#[.string a1_0,.int .i64 a1_1,.int .i64 a1_2]) (t:=79) ?hr ?_;(case hd=>rfl);(case hg=>rfl);(case hr=>first|(go_simp;done)|(go_simp;rfl));intro gb156 hg w7 hbox hb;have n0_:=aK (qm_ (g:=gb155) (o:=.cells #[.string a0_0,.int .i64 a0_1,.int .i64 a0_2] 79 (0,0)) (by (with_reducible repeat (first|refine qf_ ?_ _|refine qi_ ?_|refine qe_ ?_ _));exact BK155.out) hb);have n1_:=aK (qj_ (by repeat (first|(with_reducible first|exact HB.out|apply qb_|apply qa_|apply qc_|refine qh_ ?_ GE155.out)|exact HB.out)) hb);have n2_:=aK (hbox);have n3_:=aK ((by rw [hg];exact (qk_ (by repeat (first|(with_reducible first|exact HB.out|apply qb_|apply qa_|apply qc_|refine qh_ ?_ GE155.out)|exact HB.out))):w.heap.size≤gb156));have n4_:=aK ((by rw [hg];exact (qk_ (by repeat (first|(with_reducible first|exact HB.out|apply qb_|apply qa_|apply qc_|refine qh_ ?_ GE155.out)|exact HB.out))):w.heap.size≤gb156));have n5_:=aK ((by rw [hg];exact Nat.ne_of_lt (blk_lt (g:=gb155) (o:=.cells #[.string a0_0,.int .i64 a0_1,.int .i64 a0_2] 79 (0,0)) (by (with_reducible repeat (first|refine qf_ ?_ _|refine qi_ ?_|refine qe_ ?_ _));exact BK155.out)):gb155 ≠ gb156));have n6_:=aK ((by rw [hg];exact Nat.ne_of_gt (blk_lt (g:=gb155) (o:=.cells #[.string a0_0,.int .i64 a0_1,.int .i64 a0_2] 79 (0,0)) (by (with_reducible repeat (first|refine qf_ ?_ _|refine qi_ ?_|refine qe_ ?_ _));exact BK155.out)):gb156 ≠ gb155));clear BK155;clear HB;have BK155:=n0_;have HB:=n1_;have BK156:=n2_;have GW156:=n3_;have GE156:=n4_;have NB155_156:=n5_;have NB156_155:=n6_;clear n0_ n1_ n2_ n3_ n4_ n5_ n6_;clear hb hbox hg;have hnb8:=NB155_156.out;have hnc8:=NB156_155.out;have hcz9_0:w7.cell? ⟨gb155,0,none⟩=some (.string a0_0):=(qg_ BK155.out 0).trans rfl;have hcz9_1:w7.cell? ⟨gb155,1,none⟩=some (.int .i64 a0_1):=(qg_ BK155.out 1).trans rfl;have hcz9_2:w7.cell? ⟨gb155,2,none⟩=some (.int .i64 a0_2):=(qg_ BK155.out 2).trans rfl;have hfz9_0:=qd_ BK155.out 0;have hfz9_1:=qd_ BK155.out 1;have hfz9_2:=qd_ BK155.out 2;have hcz10_0:w7.cell? ⟨gb156,0,none⟩=some (.string a1_0):=(qg_ BK156.out 0).trans rfl;have hcz10_1:w7.cell? ⟨gb156,1,none⟩=some (.int .i64 a1_1):=(qg_ BK156.out 1).trans rfl;have hcz10_2:w7.cell? ⟨gb156,2,none⟩=some (.int .i64 a1_2):=(qg_ BK156.out 2).trans rfl;have hfz10_0:=qd_ BK156.out 0;have hfz10_1:=qd_ BK156.out 1;have hfz10_2:=qd_ BK156.out 2)|((with_reducible refine qa1_ (f:=157) rfl ?_);refine goesL_ (some 14) rfl rfl Try.func157 (by kernel_rfl) rfl #[.agg #[.int .i64 a0_1,.int .i64 a0_2],.agg #[.int .i64 a1_1,.int .i64 a1_2]] rfl (by (try simp only [List.map_toArray,List.map_cons,List.map_nil]);first|done|rfl|(simp only [List.length_drop,List.length_take];rfl)) ?_;(with_reducible refine (qw2_.calls a0_1 a0_2 a1_1 a1_2 true _ A4.out).mono ?_);rintro e w11 ⟨rfl,hb⟩;refine ⟨_,rfl,?_⟩;have n0_:=aK (qm_ (g:=gb155) (o:=.cells #[.string a0_0,.int .i64 a0_1,.int .i64 a0_2] 79 (0,0)) (by (with_reducible repeat (first|refine qf_ ?_ _|refine qi_ ?_|refine qe_ ?_ _));exact BK155.out) hb);have n1_:=aK (qm_ (g:=gb156) (o:=.cells #[.string a1_0,.int .i64 a1_1,.int .i64 a1_2] 79 (0,0)) (by (with_reducible repeat (first|refine qf_ ?_ _|refine qi_ ?_|refine qe_ ?_ _));exact BK156.out) hb);have n2_:=aK (qj_ (by repeat (first|(with_reducible first|exact HB.out|apply qb_|apply qa_|apply qc_|refine qh_ ?_ GE155.out|refine qh_ ?_ GE156.out)|exact HB.out)) hb);clear BK155;clear BK156;clear HB;have BK155:=n0_;have BK156:=n1_;have HB:=n2_;clear n0_ n1_ n2_;(try clear hb);(try clear hb2);(try clear hk);(try clear hi)))
   go_ret
   exact ⟨by first|rfl|(simp [qo_,qn_] <;> rfl)|(simp [*,qo_,qn_] <;> rfl),by repeat (first|(with_reducible first|exact HB.out|apply qb_|apply qa_|apply qc_|refine qh_ ?_ GE155.out|refine qh_ ?_ GE156.out)|exact HB.out)⟩
  ·replace c5:=Bool.eq_false_iff.mpr c5
   subst c5
   have H1:(some false)=some r:=by rw [if_neg (show ¬ (false=true) by decide)] at H;exact H
   clear H
   have H:=H1
   clear H1
   obtain rfl:=Option.some.inj H
   go_enter Try.func80,Try.ntmps80
   go_wp2_with (first|((with_reducible refine qu_ (N:=2) rfl ?_);refine qr_ ?hg (N:=2) ?hd (cs:=#[.string a0_0,.int .i64 a0_1,.int .i64 a0_2]) (t:=79) ?hr ?_;(case hd=>rfl);(case hg=>rfl);(case hr=>first|(go_simp;done)|(go_simp;rfl));intro gb155 hg w12 hbox hb;have n0_:=aK (qj_ (by repeat (first|(with_reducible first|exact HB.out|apply qb_|apply qa_|apply qc_)|exact HB.out)) hb);have n1_:=aK (hbox);have n2_:=aK ((by rw [hg];exact (qk_ (by repeat (first|(with_reducible first|exact HB.out|apply qb_|apply qa_|apply qc_)|exact HB.out))):w.heap.size≤gb155));have n3_:=aK ((by rw [hg];exact (qk_ (by repeat (first|(with_reducible first|exact HB.out|apply qb_|apply qa_|apply qc_)|exact HB.out))):w.heap.size≤gb155));clear HB;have HB:=n0_;have BK155:=n1_;have GW155:=n2_;have GE155:=n3_;clear n0_ n1_ n2_ n3_;clear hb hbox hg)|((with_reducible refine qu_ (N:=3) rfl ?_);refine qr_ ?hg (N:=3) ?hd (cs:=#[.string a1_0,.int .i64 a1_1,.int .i64 a1_2]) (t:=79) ?hr ?_;(case hd=>rfl);(case hg=>rfl);(case hr=>first|(go_simp;done)|(go_simp;rfl));intro gb156 hg w13 hbox hb;have n0_:=aK (qm_ (g:=gb155) (o:=.cells #[.string a0_0,.int .i64 a0_1,.int .i64 a0_2] 79 (0,0)) (by (with_reducible repeat (first|refine qf_ ?_ _|refine qi_ ?_|refine qe_ ?_ _));exact BK155.out) hb);have n1_:=aK (qj_ (by repeat (first|(with_reducible first|exact HB.out|apply qb_|apply qa_|apply qc_|refine qh_ ?_ GE155.out)|exact HB.out)) hb);have n2_:=aK (hbox);have n3_:=aK ((by rw [hg];exact (qk_ (by repeat (first|(with_reducible first|exact HB.out|apply qb_|apply qa_|apply qc_|refine qh_ ?_ GE155.out)|exact HB.out))):w.heap.size≤gb156));have n4_:=aK ((by rw [hg];exact (qk_ (by repeat (first|(with_reducible first|exact HB.out|apply qb_|apply qa_|apply qc_|refine qh_ ?_ GE155.out)|exact HB.out))):w.heap.size≤gb156));have n5_:=aK ((by rw [hg];exact Nat.ne_of_lt (blk_lt (g:=gb155) (o:=.cells #[.string a0_0,.int .i64 a0_1,.int .i64 a0_2] 79 (0,0)) (by (with_reducible repeat (first|refine qf_ ?_ _|refine qi_ ?_|refine qe_ ?_ _));exact BK155.out)):gb155 ≠ gb156));have n6_:=aK ((by rw [hg];exact Nat.ne_of_gt (blk_lt (g:=gb155) (o:=.cells #[.string a0_0,.int .i64 a0_1,.int .i64 a0_2] 79 (0,0)) (by (with_reducible repeat (first|refine qf_ ?_ _|refine qi_ ?_|refine qe_ ?_ _));exact BK155.out)):gb156 ≠ gb155));clear BK155;clear HB;have BK155:=n0_;have HB:=n1_;have BK156:=n2_;have GW156:=n3_;have GE156:=n4_;have NB155_156:=n5_;have NB156_155:=n6_;clear n0_ n1_ n2_ n3_ n4_ n5_ n6_;clear hb hbox hg;have hnb14:=NB155_156.out;have hnc14:=NB156_155.out;have hcz15_0:w13.cell? ⟨gb155,0,none⟩=some (.string a0_0):=(qg_ BK155.out 0).trans rfl;have hcz15_1:w13.cell? ⟨gb155,1,none⟩=some (.int .i64 a0_1):=(qg_ BK155.out 1).trans rfl;have hcz15_2:w13.cell? ⟨gb155,2,none⟩=some (.int .i64 a0_2):=(qg_ BK155.out 2).trans rfl;have hfz15_0:=qd_ BK155.out 0;have hfz15_1:=qd_ BK155.out 1;have hfz15_2:=qd_ BK155.out 2;have hcz16_0:w13.cell? ⟨gb156,0,none⟩=some (.string a1_0):=(qg_ BK156.out 0).trans rfl;have hcz16_1:w13.cell? ⟨gb156,1,none⟩=some (.int .i64 a1_1):=(qg_ BK156.out 1).trans rfl;have hcz16_2:w13.cell? ⟨gb156,2,none⟩=some (.int .i64 a1_2):=(qg_ BK156.out 2).trans rfl;have hfz16_0:=qd_ BK156.out 0;have hfz16_1:=qd_ BK156.out 1;have hfz16_2:=qd_ BK156.out 2)|((with_reducible refine qa1_ (f:=157) rfl ?_);refine goesL_ (some 14) rfl rfl Try.func157 (by kernel_rfl) rfl #[.agg #[.int .i64 a0_1,.int .i64 a0_2],.agg #[.int .i64 a1_1,.int .i64 a1_2]] rfl (by (try simp only [List.map_toArray,List.map_cons,List.map_nil]);first|done|rfl|(simp only [List.length_drop,List.length_take];rfl)) ?_;(with_reducible refine (qw2_.calls a0_1 a0_2 a1_1 a1_2 false _ A4.out).mono ?_);rintro e w17 ⟨rfl,hb⟩;refine ⟨_,rfl,?_⟩;have n0_:=aK (qm_ (g:=gb155) (o:=.cells #[.string a0_0,.int .i64 a0_1,.int .i64 a0_2] 79 (0,0)) (by (with_reducible repeat (first|refine qf_ ?_ _|refine qi_ ?_|refine qe_ ?_ _));exact BK155.out) hb);have n1_:=aK (qm_ (g:=gb156) (o:=.cells #[.string a1_0,.int .i64 a1_1,.int .i64 a1_2] 79 (0,0)) (by (with_reducible repeat (first|refine qf_ ?_ _|refine qi_ ?_|refine qe_ ?_ _));exact BK156.out) hb);have n2_:=aK (qj_ (by repeat (first|(with_reducible first|exact HB.out|apply qb_|apply qa_|apply qc_|refine qh_ ?_ GE155.out|refine qh_ ?_ GE156.out)|exact HB.out)) hb);clear BK155;clear BK156;clear HB;have BK155:=n0_;have BK156:=n1_;have HB:=n2_;clear n0_ n1_ n2_;(try clear hb);(try clear hb2);(try clear hk);(try clear hi)))
   go_ret
   exact ⟨by first|rfl|(simp [qo_,qn_] <;> rfl)|(simp [*,qo_,qn_] <;> rfl),by repeat (first|(with_reducible first|exact HB.out|apply qb_|apply qa_|apply qc_|refine qh_ ?_ GE155.out|refine qh_ ?_ GE156.out)|exact HB.out)⟩
 ·rw [if_neg c3] at H
  have c3b0:(a0_0.toList == a1_0.toList)=false:=beq_eq_false_iff_ne.mpr c3
  have c3b1:(a0_0.toList != a1_0.toList)=true:=bne_iff_ne.mpr c3
  obtain rfl:=Option.some.inj H
  go_enter Try.func80,Try.ntmps80
  go_wp2_with (first|((with_reducible refine qu_ (N:=2) rfl ?_);refine qr_ ?hg (N:=2) ?hd (cs:=#[.string a0_0,.int .i64 a0_1,.int .i64 a0_2]) (t:=79) ?hr ?_;(case hd=>rfl);(case hg=>rfl);(case hr=>first|(go_simp;done)|(go_simp;rfl));intro gb155 hg w18 hbox hb;have n0_:=aK (qj_ (by repeat (first|(with_reducible first|exact HB.out|apply qb_|apply qa_|apply qc_)|exact HB.out)) hb);have n1_:=aK (hbox);have n2_:=aK ((by rw [hg];exact (qk_ (by repeat (first|(with_reducible first|exact HB.out|apply qb_|apply qa_|apply qc_)|exact HB.out))):w.heap.size≤gb155));have n3_:=aK ((by rw [hg];exact (qk_ (by repeat (first|(with_reducible first|exact HB.out|apply qb_|apply qa_|apply qc_)|exact HB.out))):w.heap.size≤gb155));clear HB;have HB:=n0_;have BK155:=n1_;have GW155:=n2_;have GE155:=n3_;clear n0_ n1_ n2_ n3_;clear hb hbox hg)|((with_reducible refine qu_ (N:=3) rfl ?_);refine qr_ ?hg (N:=3) ?hd (cs:=#[.string a1_0,.int .i64 a1_1,.int .i64 a1_2]) (t:=79) ?hr ?_;(case hd=>rfl);(case hg=>rfl);(case hr=>first|(go_simp;done)|(go_simp;rfl));intro gb156 hg w19 hbox hb;have n0_:=aK (qm_ (g:=gb155) (o:=.cells #[.string a0_0,.int .i64 a0_1,.int .i64 a0_2] 79 (0,0)) (by (with_reducible repeat (first|refine qf_ ?_ _|refine qi_ ?_|refine qe_ ?_ _));exact BK155.out) hb);have n1_:=aK (qj_ (by repeat (first|(with_reducible first|exact HB.out|apply qb_|apply qa_|apply qc_|refine qh_ ?_ GE155.out)|exact HB.out)) hb);have n2_:=aK (hbox);have n3_:=aK ((by rw [hg];exact (qk_ (by repeat (first|(with_reducible first|exact HB.out|apply qb_|apply qa_|apply qc_|refine qh_ ?_ GE155.out)|exact HB.out))):w.heap.size≤gb156));have n4_:=aK ((by rw [hg];exact (qk_ (by repeat (first|(with_reducible first|exact HB.out|apply qb_|apply qa_|apply qc_|refine qh_ ?_ GE155.out)|exact HB.out))):w.heap.size≤gb156));have n5_:=aK ((by rw [hg];exact Nat.ne_of_lt (blk_lt (g:=gb155) (o:=.cells #[.string a0_0,.int .i64 a0_1,.int .i64 a0_2] 79 (0,0)) (by (with_reducible repeat (first|refine qf_ ?_ _|refine qi_ ?_|refine qe_ ?_ _));exact BK155.out)):gb155 ≠ gb156));have n6_:=aK ((by rw [hg];exact Nat.ne_of_gt (blk_lt (g:=gb155) (o:=.cells #[.string a0_0,.int .i64 a0_1,.int .i64 a0_2] 79 (0,0)) (by (with_reducible repeat (first|refine qf_ ?_ _|refine qi_ ?_|refine qe_ ?_ _));exact BK155.out)):gb156 ≠ gb155));clear BK155;clear HB;have BK155:=n0_;have HB:=n1_;have BK156:=n2_;have GW156:=n3_;have GE156:=n4_;have NB155_156:=n5_;have NB156_155:=n6_;clear n0_ n1_ n2_ n3_ n4_ n5_ n6_;clear hb hbox hg;have hnb20:=NB155_156.out;have hnc20:=NB156_155.out;have hcz21_0:w19.cell? ⟨gb155,0,none⟩=some (.string a0_0):=(qg_ BK155.out 0).trans rfl;have hcz21_1:w19.cell? ⟨gb155,1,none⟩=some (.int .i64 a0_1):=(qg_ BK155.out 1).trans rfl;have hcz21_2:w19.cell? ⟨gb155,2,none⟩=some (.int .i64 a0_2):=(qg_ BK155.out 2).trans rfl;have hfz21_0:=qd_ BK155.out 0;have hfz21_1:=qd_ BK155.out 1;have hfz21_2:=qd_ BK155.out 2;have hcz22_0:w19.cell? ⟨gb156,0,none⟩=some (.string a1_0):=(qg_ BK156.out 0).trans rfl;have hcz22_1:w19.cell? ⟨gb156,1,none⟩=some (.int .i64 a1_1):=(qg_ BK156.out 1).trans rfl;have hcz22_2:w19.cell? ⟨gb156,2,none⟩=some (.int .i64 a1_2):=(qg_ BK156.out 2).trans rfl;have hfz22_0:=qd_ BK156.out 0;have hfz22_1:=qd_ BK156.out 1;have hfz22_2:=qd_ BK156.out 2))
  go_ret
  exact ⟨by first|rfl|(simp [qo_,qn_] <;> rfl)|(simp [*,qo_,qn_] <;> rfl),by repeat (first|(with_reducible first|exact HB.out|apply qb_|apply qa_|apply qc_|refine qh_ ?_ GE155.out|refine qh_ ?_ GE156.out)|exact HB.out)⟩
end Go.Proofs.Ytaiefdhenikiiaa.Base
namespace Go.Proofs.Ytaiefdhenikiiaa.Base
open Go.RowKit Go.Proofs.YtaiefdhenikiiaaW.PrintWords Go.Proofs.YtaiefdhenikiiaaW.PrintLast Go.Proofs.YtaiefdhenikiiaaW.PrintMore
attribute [local go_sem] max2_int qo1_ max_two min_two max_three min_three max_four min_four Go.Proofs.YtaiefdhenikiiaaZ.qx_   -- for this text's walks alone
set_option linter.unusedVariables false
set_option linter.unusedSimpArgs false
def qc1_.l0:Nat→List (S79)→List (S79)→Int→Option (Bool)
 | 0,_,_,_=>none
 | k+1,x0,x1,x5=>if x5 < (x0.length:Int) then (if 0≤x5 then (if x5 < (x1.length:Int) then ((qd3_.f ((rd_T79 x0 x5).f0) ((rd_T79 x0 x5).f1.f0) ((rd_T79 x0 x5).f1.f1) ((rd_T79 x1 x5).f0) ((rd_T79 x1 x5).f1.f0) ((rd_T79 x1 x5).f1.f1)).bind fun t160=>(if t160=true then (qc1_.l0 k x0 x1 (wrap64 (x5+1))) else (some false))) else (none)) else (none)) else (some true)
def qc1_.f (k:Nat) (l0:List (S79)) (l1:List (S79)):Option (Bool):=if (l0.length:Int)=(l1.length:Int) then (qc1_.l0 k l0 l1 0) else (some false)
theorem qc1_.mono_l:∀ k,(∀ y0 y1 y2,LeO (qc1_.l0 k y0 y1 y2) (qc1_.l0 (k+1) y0 y1 y2))
 | 0=>fun _ _ _ r h=>by simp [qc1_.l0] at h
 | k+1=>by
  have ih0:=qc1_.mono_l k
  ·intro y0 y1 y2
   unfold qc1_.l0
   repeat' first
   | (with_reducible exact ih0 _ _ _)
   | (with_reducible exact LeO.refl _)
   | (with_reducible exact LeO.none _)
   | (with_reducible refine LeO.ite ?_ ?_)
   | (with_reducible refine LeO.bind ?_ (fun _=>?_))
   | exact ih0 _ _ _
   | exact LeO.none _
   | refine LeO.ite ?_ ?_
   | refine LeO.bind ?_ (fun _=>?_)
theorem qc1_.mono:∀ a0 a1 k,LeO (qc1_.f k a0 a1) (qc1_.f (k+1) a0 a1):=by
 intro a0 a1 k
 have ih0:=qc1_.mono_l k
 unfold qc1_.f
 repeat' first
   | (with_reducible exact ih0 _ _ _)
   | (with_reducible exact LeO.refl _)
   | (with_reducible exact LeO.none _)
   | (with_reducible refine LeO.ite ?_ ?_)
   | (with_reducible refine LeO.bind ?_ (fun _=>?_))
   | exact ih0 _ _ _
   | exact LeO.none _
   | refine LeO.ite ?_ ?_
   | refine LeO.bind ?_ (fun _=>?_)
def qc1_.T6:Bool × List (List Nat × List Nat):=(true,[([],[]),([],[]),([0,1],[0,1]),([2],[2]),([],[]),([],[]),([4,5],[4,5]),([6],[6]),([3,7],[3,7]),([8],[8])])
def qc1_.B6:List Nat:=[0,0,3,7,0,0,48,112,255,511]
theorem qc1_.tab6:rtab .any (opsOf Try.f25 6)=qc1_.T6:=by kernel_rfl
theorem qc1_.bits6:waitsOk qc1_.T6.2 qc1_.B6=true:=by kernel_rfl
set_option maxHeartbeats 8000000 in
set_option maxRecDepth 100000 in
theorem qc1_.calls (k:Nat) (A0:Option Addr) (c0:Nat) (l0:List (S79)) (A1:Option Addr) (c1:Nat) (l1:List (S79)) (r:Bool) (w:World) (hr0:Kd.C k79 w A0 l0.length l0) (hc0:l0.length≤c0) (hr1:Kd.C k79 w A1 l1.length l1) (hc1:l1.length≤c1) (h:qc1_.f k l0 l1=some r) :
  Calls Try.prog 25 #[.slice A0 l0.length c0,.slice A1 l1.length c1] w fun e w'=>e=.returned (.bool r)∧Below w.heap.size w w':=by
 have hu79:=Try.underlying79
 have HR0:=aK hr0
 have HC0:=aK hc0
 clear hr0 hc0
 have HR1:=aK hr1
 have HC1:=aK hc1
 clear hr1 hc1
 have HB:=aK (Below.refl w.heap.size w)
 have H:(if (l0.length:Int)=(l1.length:Int) then (qc1_.l0 k l0 l1 0) else (some false))=some r:=h
 clear h
 by_cases c3:(l0.length:Int)=(l1.length:Int)
 ·rw [if_pos c3] at H
  have c3b0:((l0.length:Int) == (l1.length:Int))=true:=beq_iff_eq.mpr c3
  have c3b1:((l0.length:Int) != (l1.length:Int))=false:=bne_eq_false_iff_eq.mpr c3
  have c3b2:(l0.length == l1.length)=true:=by first|simpa using c3|(simp at c3 ⊢;omega)
  clear c3
  have H':=aK H
  clear H
  go_enter Try.func25,Try.ntmps25
  go_wp2
  go_loopg [5] k (fun kq v5 w'=>∃ (x5_1:Int),v5=.int .i64 x5_1∧Aside0 (qc1_.l0 kq l0 l1 x5_1=some r)∧Aside0 (kq≤k)∧Aside0 (Below w.heap.size w w'))
  case atStart=>exact ⟨(0),(by first|rfl|(simp;done)|(simp [*];done)),H',⟨Nat.le_refl _⟩,⟨by repeat (first|(with_reducible first|exact HB.out|apply qb_|apply qa_|apply qc_)|exact HB.out)⟩⟩
  case round =>
   clear H'
   try clear c1
   try clear c2
   try clear p2
   try clear c3
   try clear c3b0
   try clear c3b1
   try clear c3b2
   obtain ⟨x5_1,rfl,HA,HK1,HB⟩:=hrel
   cases gk with
   | zero=>exact absurd HA.out (by simp [qc1_.l0])
   | succ k1 =>
    have H:=HA.out
    clear HA
    simp only [qc1_.l0] at H
    by_cases c4:x5_1 < (l0.length:Int)
    ·rw [if_pos c4] at H
     have c4b0:decide (x5_1 < (l0.length:Int))=true:=decide_eq_true c4
     clear c4
     by_cases c5:0≤x5_1
     ·rw [if_pos c5] at H
      have c5b0:decide (0≤x5_1)=true:=decide_eq_true c5
      clear c5
      by_cases c6:x5_1 < (l1.length:Int)
      ·rw [if_pos c6] at H
       have c6b0:decide (x5_1 < (l1.length:Int))=true:=decide_eq_true c6
       clear c6
       replace H:=Option.bind_eq_some_iff.mp H
       obtain ⟨t160,A70,H⟩:=H
       replace H:(if t160=true then (qc1_.l0 k1 l0 l1 (wrap64 (x5_1+1))) else (some false))=some r:=H
       have A7:=aK A70
       clear A70
       by_cases c8:t160=true
       ·subst c8
        have H1:(qc1_.l0 k1 l0 l1 (wrap64 (x5_1+1)))=some r:=by rw [if_pos rfl] at H;exact H
        clear H
        have H:=H1
        clear H1
        have H':=aK H
        clear H
        try go_wp2
        have n0_:=aK (qc_ HB.out)
        clear HB
        have HB:=n0_
        clear n0_
        have p158:0≤(x5_1:Int):=of_decide_eq_true (by first|(with_reducible assumption)|assumption)
        have q158:x5_1 < (l0.length:Int):=of_decide_eq_true (by first|(with_reducible assumption)|assumption)
        obtain ⟨ad158,e158,hx158_0,hx158_1,hx158_2⟩:=at_T79 HR0.out x5_1 p158 q158
        have hw158_2:=hx158_2
        have hw158_1:=hx158_1
        have hw158_0:=hx158_0
        cases e158
        replace hx158_0:=(HB.out.cell (World.block_lt_of_cell? w _ hx158_0)).trans hx158_0
        replace hx158_1:=(HB.out.cell (World.block_lt_of_cell? w _ hx158_1)).trans hx158_1
        replace hx158_2:=(HB.out.cell (World.block_lt_of_cell? w _ hx158_2)).trans hx158_2
        replace p158:=eq_true p158
        replace q158:=eq_true q158
        have p159:0≤(x5_1:Int):=of_decide_eq_true (by first|(with_reducible assumption)|assumption)
        have q159:x5_1 < (l1.length:Int):=of_decide_eq_true (by first|(with_reducible assumption)|assumption)
        obtain ⟨ad159,e159,hx159_0,hx159_1,hx159_2⟩:=at_T79 HR1.out x5_1 p159 q159
        have hw159_2:=hx159_2
        have hw159_1:=hx159_1
        have hw159_0:=hx159_0
        cases e159
        replace hx159_0:=(HB.out.cell (World.block_lt_of_cell? w _ hx159_0)).trans hx159_0
        replace hx159_1:=(HB.out.cell (World.block_lt_of_cell? w _ hx159_1)).trans hx159_1
        replace hx159_2:=(HB.out.cell (World.block_lt_of_cell? w _ hx159_2)).trans hx159_2
        replace p159:=eq_true p159
        replace q159:=eq_true q159
        refine start_ (n:=10) (S:=fun w'=>w'.cell? (ad158.add ((x5_1).toNat * 3))=some (.string ((rd_T79 l0 x5_1).f0))∧w'.cell? ⟨(ad158.add ((x5_1).toNat * 3)).block,(ad158.add ((x5_1).toNat * 3)).off+1,none⟩=some (.int .i64 ((rd_T79 l0 x5_1).f1.f0))∧w'.cell? ⟨(ad158.add ((x5_1).toNat * 3)).block,(ad158.add ((x5_1).toNat * 3)).off+2,none⟩=some (.int .i64 ((rd_T79 l0 x5_1).f1.f1))∧w'.cell? (ad159.add ((x5_1).toNat * 3))=some (.string ((rd_T79 l1 x5_1).f0))∧w'.cell? ⟨(ad159.add ((x5_1).toNat * 3)).block,(ad159.add ((x5_1).toNat * 3)).off+1,none⟩=some (.int .i64 ((rd_T79 l1 x5_1).f1.f0))∧w'.cell? ⟨(ad159.add ((x5_1).toNat * 3)).block,(ad159.add ((x5_1).toNat * 3)).off+2,none⟩=some (.int .i64 ((rd_T79 l1 x5_1).f1.f1))) (ds:=[]) #[fF,fF,fF,fF,fF,fF,fF,fF,fF,fF] (by kernel_rfl) rfl rfl ⟨((HB.out.cell (World.block_lt_of_cell? w _ hw158_0)).trans hw158_0),((HB.out.cell (World.block_lt_of_cell? w _ hw158_1)).trans hw158_1),((HB.out.cell (World.block_lt_of_cell? w _ hw158_2)).trans hw158_2),((HB.out.cell (World.block_lt_of_cell? w _ hw159_0)).trans hw159_0),((HB.out.cell (World.block_lt_of_cell? w _ hw159_1)).trans hw159_1),((HB.out.cell (World.block_lt_of_cell? w _ hw159_2)).trans hw159_2)⟩ (fun hHeld=>?_);refine with_tabW qc1_.tab6 qc1_.bits6 (fun HT_ HW_=>?_)
        generalize wr.drew=w9 at HB hx158_0 hx158_1 hx158_2 hx159_0 hx159_1 hx159_2 hHeld ⊢
        refine pure_ (i:=0) (N:=some 17) (v:=?_) (a':=?_) #[tT,fF,fF,fF,fF,fF,fF,fF,fF,fF] rfl rfl (any_of HT_.out (by kernel_rfl)) (fun _ _ _ h=>h) (Or.inl ⟨by rfl,?_⟩) ?_ ?_
        rotate_left
        ·intro w'
         go_simp
         with_reducible rfl
        rotate_left
        ·simp only [Act.put,List.setIfInBounds_toArray,List.set_cons_zero,List.set_cons_succ,i64_w,i32_w]
         rfl
        refine pure_ (i:=1) (N:=some 18) (v:=?_) (a':=?_) #[tT,tT,fF,fF,fF,fF,fF,fF,fF,fF] rfl rfl (any_of HT_.out (by kernel_rfl)) (fun _ _ _ h=>h) (Or.inl ⟨by rfl,?_⟩) ?_ ?_
        rotate_left
        ·intro w'
         go_simp
         with_reducible rfl
        rotate_left
        ·simp only [Act.put,List.setIfInBounds_toArray,List.set_cons_zero,List.set_cons_succ,i64_w,i32_w]
         rfl
        refine pure_ (i:=2) (N:=some 19) (v:=?_) (a':=?_) #[tT,tT,tT,fF,fF,fF,fF,fF,fF,fF] rfl rfl (any_of HT_.out (by kernel_rfl)) (fun _ _ _ h=>h) (Or.inl ⟨by rfl,?_⟩) ?_ ?_
        rotate_left
        ·intro w'
         go_simp
         with_reducible rfl
        rotate_left
        ·simp only [Act.put,List.setIfInBounds_toArray,List.set_cons_zero,List.set_cons_succ,i64_w,i32_w]
         rfl
        refine pure_ (i:=4) (N:=some 21) (v:=?_) (a':=?_) #[tT,tT,tT,fF,tT,fF,fF,fF,fF,fF] rfl rfl (any_of HT_.out (by kernel_rfl)) (fun _ _ _ h=>h) (Or.inl ⟨by rfl,?_⟩) ?_ ?_
        rotate_left
        ·intro w'
         go_simp
         with_reducible rfl
        rotate_left
        ·simp only [Act.put,List.setIfInBounds_toArray,List.set_cons_zero,List.set_cons_succ,i64_w,i32_w]
         rfl
        refine pure_ (i:=5) (N:=some 22) (v:=?_) (a':=?_) #[tT,tT,tT,fF,tT,tT,fF,fF,fF,fF] rfl rfl (any_of HT_.out (by kernel_rfl)) (fun _ _ _ h=>h) (Or.inl ⟨by rfl,?_⟩) ?_ ?_
        rotate_left
        ·intro w'
         go_simp
         with_reducible rfl
        rotate_left
        ·simp only [Act.put,List.setIfInBounds_toArray,List.set_cons_zero,List.set_cons_succ,i64_w,i32_w]
         rfl
        refine pure_ (i:=6) (N:=some 23) (v:=?_) (a':=?_) #[tT,tT,tT,fF,tT,tT,tT,fF,fF,fF] rfl rfl (any_of HT_.out (by kernel_rfl)) (fun _ _ _ h=>h) (Or.inl ⟨by rfl,?_⟩) ?_ ?_
        rotate_left
        ·intro w'
         go_simp
         with_reducible rfl
        rotate_left
        ·simp only [Act.put,List.setIfInBounds_toArray,List.set_cons_zero,List.set_cons_succ,i64_w,i32_w]
         rfl
        refine take_ (i:=3) (N:=some 20) (v:=?_) (a':=?_) #[tT,tT,tT,tT,tT,tT,tT,fF,fF,fF] rfl rfl (take_ofW HT_.out HW_.out (by kernel_rfl)) (fun _ _ _ h=>h) (Or.inl ⟨by rfl,?_⟩) hHeld ?_ ?_
        rotate_left
        ·rintro w' ⟨s0,s1,s2,s3,s4,s5⟩
         go_simp
         with_reducible rfl
        rotate_left
        ·simp only [Act.put,List.setIfInBounds_toArray,List.set_cons_zero,List.set_cons_succ,i64_w,i32_w]
         rfl
        refine take_ (i:=7) (N:=some 24) (v:=?_) (a':=?_) #[tT,tT,tT,tT,tT,tT,tT,tT,fF,fF] rfl rfl (take_ofW HT_.out HW_.out (by kernel_rfl)) (fun _ _ _ h=>h) (Or.inl ⟨by rfl,?_⟩) hHeld ?_ ?_
        rotate_left
        ·rintro w' ⟨s0,s1,s2,s3,s4,s5⟩
         go_simp
         with_reducible rfl
        rotate_left
        ·simp only [Act.put,List.setIfInBounds_toArray,List.set_cons_zero,List.set_cons_succ,i64_w,i32_w]
         rfl
        refine one_ (i:=8) (N:=some 25) #[tT,tT,tT,tT,tT,tT,tT,tT,tT,fF] rfl rfl (one_of HT_.out (by kernel_rfl)) (by decide) (fun K hK=>?_)
        refine goes_ Try.func80 (by kernel_rfl) rfl #[.agg #[.string ((rd_T79 l0 x5_1).f0),.int .i64 ((rd_T79 l0 x5_1).f1.f0),.int .i64 ((rd_T79 l0 x5_1).f1.f1)],.agg #[.string ((rd_T79 l1 x5_1).f0),.int .i64 ((rd_T79 l1 x5_1).f1.f0),.int .i64 ((rd_T79 l1 x5_1).f1.f1)]] (by rfl) rfl rfl (by (try simp only [List.map_toArray,List.map_cons,List.map_nil]);first|done|rfl|(simp only [List.length_drop,List.length_take];rfl)) ?_
        with_reducible refine (qd3_.calls ((rd_T79 l0 x5_1).f0) ((rd_T79 l0 x5_1).f1.f0) ((rd_T79 l0 x5_1).f1.f1) ((rd_T79 l1 x5_1).f0) ((rd_T79 l1 x5_1).f1.f0) ((rd_T79 l1 x5_1).f1.f1) true _ A7.out).mono ?_
        rintro e w10 ⟨rfl,hb⟩
        refine ⟨_,rfl,?_⟩
        have n0_:=aK (qj_ (by repeat (first|(with_reducible first|exact HB.out|apply qb_|apply qa_|apply qc_)|exact HB.out)) hb)
        clear HB
        have HB:=n0_
        clear n0_
        (try clear hb)
        (try clear hb2)
        (try clear hk)
        (try clear hi)
        refine hK.out _ _ ⟨((HB.out.cell (World.block_lt_of_cell? w _ hw158_0)).trans hw158_0),((HB.out.cell (World.block_lt_of_cell? w _ hw158_1)).trans hw158_1),((HB.out.cell (World.block_lt_of_cell? w _ hw158_2)).trans hw158_2),((HB.out.cell (World.block_lt_of_cell? w _ hw159_0)).trans hw159_0),((HB.out.cell (World.block_lt_of_cell? w _ hw159_1)).trans hw159_1),((HB.out.cell (World.block_lt_of_cell? w _ hw159_2)).trans hw159_2)⟩ (fun hHeld=>?_)
        clear hK K
        refine norm_ (a':=?_) ?_ ?_
        rotate_left
        ·show Act.put _ (some 25) _=_
         simp only [Act.put,List.setIfInBounds_toArray,List.set_cons_zero,List.set_cons_succ,i64_w,i32_w]
         rfl
        refine pure_ (i:=9) (N:=some 26) (v:=?_) (a':=?_) #[tT,tT,tT,tT,tT,tT,tT,tT,tT,tT] rfl rfl (any_of HT_.out (by kernel_rfl)) (fun _ _ _ h=>h) (Or.inl ⟨by rfl,?_⟩) ?_ ?_
        rotate_left
        ·intro w'
         go_simp
         with_reducible rfl
        rotate_left
        ·simp only [Act.put,List.setIfInBounds_toArray,List.set_cons_zero,List.set_cons_succ,i64_w,i32_w]
         rfl
        refine done_ (done_of HT_.out (by kernel_rfl)) ?_
        try go_wp2
        go_roundg k1
        case measure=>have:=HK1.out;omega
        case rel=>exact ⟨(wrap64 (x5_1+1)),(by first|rfl|(simp;done)|(simp [*];done)),H',⟨by have:=HK1.out;omega⟩,⟨by repeat (first|(with_reducible first|exact HB.out|apply qb_|apply qa_|apply qc_)|exact HB.out)⟩⟩
       ·replace c8:=Bool.eq_false_iff.mpr c8
        subst c8
        have H1:(some false)=some r:=by rw [if_neg (show ¬ (false=true) by decide)] at H;exact H
        clear H
        have H:=H1
        clear H1
        obtain rfl:=Option.some.inj H
        try go_wp2
        have n0_:=aK (qc_ HB.out)
        clear HB
        have HB:=n0_
        clear n0_
        have p158:0≤(x5_1:Int):=of_decide_eq_true (by first|(with_reducible assumption)|assumption)
        have q158:x5_1 < (l0.length:Int):=of_decide_eq_true (by first|(with_reducible assumption)|assumption)
        obtain ⟨ad158,e158,hx158_0,hx158_1,hx158_2⟩:=at_T79 HR0.out x5_1 p158 q158
        have hw158_2:=hx158_2
        have hw158_1:=hx158_1
        have hw158_0:=hx158_0
        cases e158
        replace hx158_0:=(HB.out.cell (World.block_lt_of_cell? w _ hx158_0)).trans hx158_0
        replace hx158_1:=(HB.out.cell (World.block_lt_of_cell? w _ hx158_1)).trans hx158_1
        replace hx158_2:=(HB.out.cell (World.block_lt_of_cell? w _ hx158_2)).trans hx158_2
        replace p158:=eq_true p158
        replace q158:=eq_true q158
        have p159:0≤(x5_1:Int):=of_decide_eq_true (by first|(with_reducible assumption)|assumption)
        have q159:x5_1 < (l1.length:Int):=of_decide_eq_true (by first|(with_reducible assumption)|assumption)
        obtain ⟨ad159,e159,hx159_0,hx159_1,hx159_2⟩:=at_T79 HR1.out x5_1 p159 q159
        have hw159_2:=hx159_2
        have hw159_1:=hx159_1
        have hw159_0:=hx159_0
        cases e159
        replace hx159_0:=(HB.out.cell (World.block_lt_of_cell? w _ hx159_0)).trans hx159_0
        replace hx159_1:=(HB.out.cell (World.block_lt_of_cell? w _ hx159_1)).trans hx159_1
        replace hx159_2:=(HB.out.cell (World.block_lt_of_cell? w _ hx159_2)).trans hx159_2
        replace p159:=eq_true p159
        replace q159:=eq_true q159
        refine start_ (n:=10) (S:=fun w'=>w'.cell? (ad158.add ((x5_1).toNat * 3))=some (.string ((rd_T79 l0 x5_1).f0))∧w'.cell? ⟨(ad158.add ((x5_1).toNat * 3)).block,(ad158.add ((x5_1).toNat * 3)).off+1,none⟩=some (.int .i64 ((rd_T79 l0 x5_1).f1.f0))∧w'.cell? ⟨(ad158.add ((x5_1).toNat * 3)).block,(ad158.add ((x5_1).toNat * 3)).off+2,none⟩=some (.int .i64 ((rd_T79 l0 x5_1).f1.f1))∧w'.cell? (ad159.add ((x5_1).toNat * 3))=some (.string ((rd_T79 l1 x5_1).f0))∧w'.cell? ⟨(ad159.add ((x5_1).toNat * 3)).block,(ad159.add ((x5_1).toNat * 3)).off+1,none⟩=some (.int .i64 ((rd_T79 l1 x5_1).f1.f0))∧w'.cell? ⟨(ad159.add ((x5_1).toNat * 3)).block,(ad159.add ((x5_1).toNat * 3)).off+2,none⟩=some (.int .i64 ((rd_T79 l1 x5_1).f1.f1))) (ds:=[]) #[fF,fF,fF,fF,fF,fF,fF,fF,fF,fF] (by kernel_rfl) rfl rfl ⟨((HB.out.cell (World.block_lt_of_cell? w _ hw158_0)).trans hw158_0),((HB.out.cell (World.block_lt_of_cell? w _ hw158_1)).trans hw158_1),((HB.out.cell (World.block_lt_of_cell? w _ hw158_2)).trans hw158_2),((HB.out.cell (World.block_lt_of_cell? w _ hw159_0)).trans hw159_0),((HB.out.cell (World.block_lt_of_cell? w _ hw159_1)).trans hw159_1),((HB.out.cell (World.block_lt_of_cell? w _ hw159_2)).trans hw159_2)⟩ (fun hHeld=>?_);refine with_tabW qc1_.tab6 qc1_.bits6 (fun HT_ HW_=>?_)
        generalize wr.drew=w11 at HB hx158_0 hx158_1 hx158_2 hx159_0 hx159_1 hx159_2 hHeld ⊢
        refine pure_ (i:=0) (N:=some 17) (v:=?_) (a':=?_) #[tT,fF,fF,fF,fF,fF,fF,fF,fF,fF] rfl rfl (any_of HT_.out (by kernel_rfl)) (fun _ _ _ h=>h) (Or.inl ⟨by rfl,?_⟩) ?_ ?_
        rotate_left
        ·intro w'
         go_simp
         with_reducible rfl
        rotate_left
        ·simp only [Act.put,List.setIfInBounds_toArray,List.set_cons_zero,List.set_cons_succ,i64_w,i32_w]
         rfl
        refine pure_ (i:=1) (N:=some 18) (v:=?_) (a':=?_) #[tT,tT,fF,fF,fF,fF,fF,fF,fF,fF] rfl rfl (any_of HT_.out (by kernel_rfl)) (fun _ _ _ h=>h) (Or.inl ⟨by rfl,?_⟩) ?_ ?_
        rotate_left
        ·intro w'
         go_simp
         with_reducible rfl
        rotate_left
        ·simp only [Act.put,List.setIfInBounds_toArray,List.set_cons_zero,List.set_cons_succ,i64_w,i32_w]
         rfl
        refine pure_ (i:=2) (N:=some 19) (v:=?_) (a':=?_) #[tT,tT,tT,fF,fF,fF,fF,fF,fF,fF] rfl rfl (any_of HT_.out (by kernel_rfl)) (fun _ _ _ h=>h) (Or.inl ⟨by rfl,?_⟩) ?_ ?_
        rotate_left
        ·intro w'
         go_simp
         with_reducible rfl
        rotate_left
        ·simp only [Act.put,List.setIfInBounds_toArray,List.set_cons_zero,List.set_cons_succ,i64_w,i32_w]
         rfl
        refine pure_ (i:=4) (N:=some 21) (v:=?_) (a':=?_) #[tT,tT,tT,fF,tT,fF,fF,fF,fF,fF] rfl rfl (any_of HT_.out (by kernel_rfl)) (fun _ _ _ h=>h) (Or.inl ⟨by rfl,?_⟩) ?_ ?_
        rotate_left
        ·intro w'
         go_simp
         with_reducible rfl
        rotate_left
        ·simp only [Act.put,List.setIfInBounds_toArray,List.set_cons_zero,List.set_cons_succ,i64_w,i32_w]
         rfl
        refine pure_ (i:=5) (N:=some 22) (v:=?_) (a':=?_) #[tT,tT,tT,fF,tT,tT,fF,fF,fF,fF] rfl rfl (any_of HT_.out (by kernel_rfl)) (fun _ _ _ h=>h) (Or.inl ⟨by rfl,?_⟩) ?_ ?_
        rotate_left
        ·intro w'
         go_simp
         with_reducible rfl
        rotate_left
        ·simp only [Act.put,List.setIfInBounds_toArray,List.set_cons_zero,List.set_cons_succ,i64_w,i32_w]
         rfl
        refine pure_ (i:=6) (N:=some 23) (v:=?_) (a':=?_) #[tT,tT,tT,fF,tT,tT,tT,fF,fF,fF] rfl rfl (any_of HT_.out (by kernel_rfl)) (fun _ _ _ h=>h) (Or.inl ⟨by rfl,?_⟩) ?_ ?_
        rotate_left
        ·intro w'
         go_simp
         with_reducible rfl
        rotate_left
        ·simp only [Act.put,List.setIfInBounds_toArray,List.set_cons_zero,List.set_cons_succ,i64_w,i32_w]
         rfl
        refine take_ (i:=3) (N:=some 20) (v:=?_) (a':=?_) #[tT,tT,tT,tT,tT,tT,tT,fF,fF,fF] rfl rfl (take_ofW HT_.out HW_.out (by kernel_rfl)) (fun _ _ _ h=>h) (Or.inl ⟨by rfl,?_⟩) hHeld ?_ ?_
        rotate_left
        ·rintro w' ⟨s0,s1,s2,s3,s4,s5⟩
         go_simp
         with_reducible rfl
        rotate_left
        ·simp only [Act.put,List.setIfInBounds_toArray,List.set_cons_zero,List.set_cons_succ,i64_w,i32_w]
         rfl
        refine take_ (i:=7) (N:=some 24) (v:=?_) (a':=?_) #[tT,tT,tT,tT,tT,tT,tT,tT,fF,fF] rfl rfl (take_ofW HT_.out HW_.out (by kernel_rfl)) (fun _ _ _ h=>h) (Or.inl ⟨by rfl,?_⟩) hHeld ?_ ?_
        rotate_left
        ·rintro w' ⟨s0,s1,s2,s3,s4,s5⟩
         go_simp
         with_reducible rfl
        rotate_left
        ·simp only [Act.put,List.setIfInBounds_toArray,List.set_cons_zero,List.set_cons_succ,i64_w,i32_w]
         rfl
        refine one_ (i:=8) (N:=some 25) #[tT,tT,tT,tT,tT,tT,tT,tT,tT,fF] rfl rfl (one_of HT_.out (by kernel_rfl)) (by decide) (fun K hK=>?_)
        refine goes_ Try.func80 (by kernel_rfl) rfl #[.agg #[.string ((rd_T79 l0 x5_1).f0),.int .i64 ((rd_T79 l0 x5_1).f1.f0),.int .i64 ((rd_T79 l0 x5_1).f1.f1)],.agg #[.string ((rd_T79 l1 x5_1).f0),.int .i64 ((rd_T79 l1 x5_1).f1.f0),.int .i64 ((rd_T79 l1 x5_1).f1.f1)]] (by rfl) rfl rfl (by (try simp only [List.map_toArray,List.map_cons,List.map_nil]);first|done|rfl|(simp only [List.length_drop,List.length_take];rfl)) ?_
        with_reducible refine (qd3_.calls ((rd_T79 l0 x5_1).f0) ((rd_T79 l0 x5_1).f1.f0) ((rd_T79 l0 x5_1).f1.f1) ((rd_T79 l1 x5_1).f0) ((rd_T79 l1 x5_1).f1.f0) ((rd_T79 l1 x5_1).f1.f1) false _ A7.out).mono ?_
        rintro e w12 ⟨rfl,hb⟩
        refine ⟨_,rfl,?_⟩
        have n0_:=aK (qj_ (by repeat (first|(with_reducible first|exact HB.out|apply qb_|apply qa_|apply qc_)|exact HB.out)) hb)
        clear HB
        have HB:=n0_
        clear n0_
        (try clear hb)
        (try clear hb2)
        (try clear hk)
        (try clear hi)
        refine hK.out _ _ ⟨((HB.out.cell (World.block_lt_of_cell? w _ hw158_0)).trans hw158_0),((HB.out.cell (World.block_lt_of_cell? w _ hw158_1)).trans hw158_1),((HB.out.cell (World.block_lt_of_cell? w _ hw158_2)).trans hw158_2),((HB.out.cell (World.block_lt_of_cell? w _ hw159_0)).trans hw159_0),((HB.out.cell (World.block_lt_of_cell? w _ hw159_1)).trans hw159_1),((HB.out.cell (World.block_lt_of_cell? w _ hw159_2)).trans hw159_2)⟩ (fun hHeld=>?_)
        clear hK K
        refine norm_ (a':=?_) ?_ ?_
        rotate_left
        ·show Act.put _ (some 25) _=_
         simp only [Act.put,List.setIfInBounds_toArray,List.set_cons_zero,List.set_cons_succ,i64_w,i32_w]
         rfl
        refine pure_ (i:=9) (N:=some 26) (v:=?_) (a':=?_) #[tT,tT,tT,tT,tT,tT,tT,tT,tT,tT] rfl rfl (any_of HT_.out (by kernel_rfl)) (fun _ _ _ h=>h) (Or.inl ⟨by rfl,?_⟩) ?_ ?_
        rotate_left
        ·intro w'
         go_simp
         with_reducible rfl
        rotate_left
        ·simp only [Act.put,List.setIfInBounds_toArray,List.set_cons_zero,List.set_cons_succ,i64_w,i32_w]
         rfl
        refine done_ (done_of HT_.out (by kernel_rfl)) ?_
        try go_wp2
        go_ret
        exact ⟨by first|rfl|(simp [qo_,qn_] <;> rfl)|(simp [*,qo_,qn_] <;> rfl),by repeat (first|(with_reducible first|exact HB.out|apply qb_|apply qa_|apply qc_)|exact HB.out)⟩
      ·rw [if_neg c6] at H
       exact absurd H (by simp)
     ·rw [if_neg c5] at H
      exact absurd H (by simp)
    ·rw [if_neg c4] at H
     have c4b0:decide (x5_1 < (l0.length:Int))=false:=decide_eq_false c4
     clear c4
     obtain rfl:=Option.some.inj H
     go_wp2
     go_ret
     exact ⟨by first|rfl|(simp [qo_,qn_] <;> rfl)|(simp [*,qo_,qn_] <;> rfl),by repeat (first|(with_reducible first|exact HB.out|apply qb_|apply qa_|apply qc_)|exact HB.out)⟩
 ·rw [if_neg c3] at H
  have c3b0:((l0.length:Int) == (l1.length:Int))=false:=beq_eq_false_iff_ne.mpr c3
  have c3b1:((l0.length:Int) != (l1.length:Int))=true:=bne_iff_ne.mpr c3
  have c3b2:(l0.length == l1.length)=false:=by first|simpa using c3|(simp at c3 ⊢;omega)
  obtain rfl:=Option.some.inj H
  go_enter Try.func25,Try.ntmps25
  go_wp2
  go_ret
  exact ⟨by first|rfl|(simp [qo_,qn_] <;> rfl)|(simp [*,qo_,qn_] <;> rfl),by repeat (first|(with_reducible first|exact HB.out|apply qb_|apply qa_|apply qc_)|exact HB.out)⟩
end Go.Proofs.Ytaiefdhenikiiaa.Base
