/- Texts that the proof of FnExactWithoutEnd needs, part 3. No condition. -/
import Derived.Test.YtaiefdhenikiiaaMFnExactWithoutEnd2
import Derived.Laws.StructEq
namespace Go.Proofs.Ytaiefdhenikiiaa
abbrev tT:Bool:=true
abbrev fF:Bool:=false
end Go.Proofs.Ytaiefdhenikiiaa
namespace Go.Proofs.Ytaiefdhenikiiaa
theorem aK {p:Prop} (h:p):Go.Proofs.YtaiefdhenikiiaaW.PrintWords.Aside0 p:=Go.Proofs.YtaiefdhenikiiaaW.PrintWords.Aside0.mk h
end Go.Proofs.Ytaiefdhenikiiaa
namespace Go.Proofs.Ytaiefdhenikiiaa.Base
open Go.RowKit Go.Proofs.YtaiefdhenikiiaaW.PrintWords Go.Proofs.YtaiefdhenikiiaaW.PrintLast Go.Proofs.YtaiefdhenikiiaaW.PrintMore
attribute [local go_sem] max2_int qv1_ max_two min_two max_three min_three max_four min_four Go.Proofs.YtaiefdhenikiiaaZ.qe1_   -- for this text's walks alone
set_option linter.unusedVariables false
set_option linter.unusedSimpArgs false
def errW:Option Int→Value
 | none=>.nilIface
 | some c=>.iface 0 (.int .i64 c)
theorem qn_:errW none=.nilIface:=rfl
theorem qo_ (c:Int):errW (some c)=.iface 0 (.int .i64 c):=rfl
theorem info9:(Try.prog.info? 9).map (fun i=>(i.zero,i.size,i.bytes))=some (some (.string ⟨#[]⟩),1,16):=by kernel_rfl
theorem info79:(Try.prog.info? 79).map (fun i=>(i.zero,i.size,i.bytes))=some (some (.agg #[(.string ⟨#[]⟩),(.int .i64 0),(.int .i64 0)]),3,32):=by kernel_rfl
structure S73 where
 f0:Int
 f1:Int
def z73:S73:=⟨(0:Int),(0:Int)⟩
def k73:Kd S73:=Kd.iso (Kd.pair (Kd.int .i64) (Kd.int .i64)) (fun x:S73=>(x.f0,x.f1))
theorem k73_open {w:World} {x:S73} {cs:List Value} (h:k73.K w x cs):cs=[.int .i64 x.f0,.int .i64 x.f1]:=by
 obtain ⟨_,_,rfl,rfl,rfl⟩:=h
 exact rfl
structure S75 where
 f0:ByteArray
 f1:S73
def z75:S75:=⟨(⟨#[]⟩:ByteArray),z73⟩
def k75:Kd S75:=Kd.iso (Kd.pair Kd.string k73) (fun x:S75=>(x.f0,x.f1))
theorem k75_open {w:World} {x:S75} {cs:List Value} (h:k75.K w x cs):cs=[.string x.f0,.int .i64 x.f1.f0,.int .i64 x.f1.f1]:=by
 obtain ⟨_,_,rfl,rfl,s1⟩:=h
 obtain rfl:=k73_open s1
 exact rfl
def rd_T75 (xs:List S75) (i:Int):S75:=xs.getD i.toNat z75
theorem at_T75 {w:World} {A:Option Addr} {n:Nat} {xs:List S75} (h:Kd.C k75 w A n xs) (i:Int) (h0:0≤i) (h1:i < n):∃ ad ,A=some ad∧w.cell? (ad.add (i.toNat * 3))=some (.string (rd_T75 xs i).f0)∧w.cell? ⟨(ad.add (i.toNat * 3)).block,(ad.add (i.toNat * 3)).off+1,none⟩=some (.int .i64 (rd_T75 xs i).f1.f0)∧w.cell? ⟨(ad.add (i.toNat * 3)).block,(ad.add (i.toNat * 3)).off+2,none⟩=some (.int .i64 (rd_T75 xs i).f1.f1):=by
 obtain ⟨ad,c,e,_,hK,hc0⟩:=Kd.C_get h z75 i h0 h1
 have hc:∀ j u,c[j]?=some u→w.cell? (ad.add (i.toNat * 3+j))=some u:=hc0
 obtain rfl:=k75_open hK
 exact ⟨ad,e,hc 0 _ rfl,by rw [← add_field _ _ 1 (by omega)];exact hc 1 _ rfl,by rw [← add_field _ _ 2 (by omega)];exact hc 2 _ rfl⟩
structure S77 where
 f0:Int
 f1:Int
def z77:S77:=⟨(0:Int),(0:Int)⟩
def k77:Kd S77:=Kd.iso (Kd.pair (Kd.int .i64) (Kd.int .i64)) (fun x:S77=>(x.f0,x.f1))
theorem k77_open {w:World} {x:S77} {cs:List Value} (h:k77.K w x cs):cs=[.int .i64 x.f0,.int .i64 x.f1]:=by
 obtain ⟨_,_,rfl,rfl,rfl⟩:=h
 exact rfl
theorem k77_openM {w:World} {base:Nat} {ok:Nat→Prop} {x:S77} {cs:List Value} (h:k77.M w base ok x cs):cs=[.int .i64 x.f0,.int .i64 x.f1]:=by
 obtain ⟨_,_,rfl,rfl,rfl⟩:=h
 exact rfl
theorem k77_mkM (w:World) (base:Nat) (ok:Nat→Prop) (x:S77) :k77.M w base ok x [.int .i64 x.f0,.int .i64 x.f1]:=⟨[.int .i64 x.f0],[.int .i64 x.f1],rfl,rfl,rfl⟩
structure S79 where
 f0:ByteArray
 f1:S77
def z79:S79:=⟨(⟨#[]⟩:ByteArray),z77⟩
def k79:Kd S79:=Kd.iso (Kd.pair Kd.string k77) (fun x:S79=>(x.f0,x.f1))
theorem k79_open {w:World} {x:S79} {cs:List Value} (h:k79.K w x cs):cs=[.string x.f0,.int .i64 x.f1.f0,.int .i64 x.f1.f1]:=by
 obtain ⟨_,_,rfl,rfl,s1⟩:=h
 obtain rfl:=k77_open s1
 exact rfl
theorem k79_openM {w:World} {base:Nat} {ok:Nat→Prop} {x:S79} {cs:List Value} (h:k79.M w base ok x cs):cs=[.string x.f0,.int .i64 x.f1.f0,.int .i64 x.f1.f1]:=by
 obtain ⟨_,_,rfl,rfl,s1⟩:=h
 obtain rfl:=k77_openM s1
 exact rfl
theorem k79_mkM (w:World) (base:Nat) (ok:Nat→Prop) (x:S79) :k79.M w base ok x [.string x.f0,.int .i64 x.f1.f0,.int .i64 x.f1.f1]:=⟨[.string x.f0],[.int .i64 x.f1.f0,.int .i64 x.f1.f1],rfl,rfl,(k77_mkM w base ok x.f1 )⟩
def rd_T79 (xs:List S79) (i:Int):S79:=xs.getD i.toNat z79
theorem at_T79 {w:World} {A:Option Addr} {n:Nat} {xs:List S79} (h:Kd.C k79 w A n xs) (i:Int) (h0:0≤i) (h1:i < n):∃ ad ,A=some ad∧w.cell? (ad.add (i.toNat * 3))=some (.string (rd_T79 xs i).f0)∧w.cell? ⟨(ad.add (i.toNat * 3)).block,(ad.add (i.toNat * 3)).off+1,none⟩=some (.int .i64 (rd_T79 xs i).f1.f0)∧w.cell? ⟨(ad.add (i.toNat * 3)).block,(ad.add (i.toNat * 3)).off+2,none⟩=some (.int .i64 (rd_T79 xs i).f1.f1):=by
 obtain ⟨ad,c,e,_,hK,hc0⟩:=Kd.C_get h z79 i h0 h1
 have hc:∀ j u,c[j]?=some u→w.cell? (ad.add (i.toNat * 3+j))=some u:=hc0
 obtain rfl:=k79_open hK
 exact ⟨ad,e,hc 0 _ rfl,by rw [← add_field _ _ 1 (by omega)];exact hc 1 _ rfl,by rw [← add_field _ _ 2 (by omega)];exact hc 2 _ rfl⟩
structure S38 where
 f0:Int
 f1:Int
 f2:(List S79)
end Go.Proofs.Ytaiefdhenikiiaa.Base
namespace Go.Proofs.Ytaiefdhenikiiaa.Base
open Go.RowKit Go.Proofs.YtaiefdhenikiiaaW.PrintWords Go.Proofs.YtaiefdhenikiiaaW.PrintLast Go.Proofs.YtaiefdhenikiiaaW.PrintMore
attribute [local go_sem] max2_int qv1_ max_two min_two max_three min_three max_four min_four Go.Proofs.YtaiefdhenikiiaaZ.qe1_   -- for this text's walks alone
set_option linter.unusedVariables false
set_option linter.unusedSimpArgs false
def qf2_.f (a0:Int) (a1:Int) (a2:Int):Option (Bool):=if a0 ≥ a1 then (some (decide (a0≤a2))) else (some false)
set_option maxHeartbeats 8000000 in
set_option maxRecDepth 100000 in
theorem qf2_.calls (a0:Int) (a1:Int) (a2:Int) (r:Bool) (w:World) (h:qf2_.f a0 a1 a2=some r) :
  Calls Try.prog 111 #[.int .i64 a0,.int .i64 a1,.int .i64 a2] w fun e w'=>e=.returned (.bool r)∧Drawn0 w w':=by
 have H:(if a0 ≥ a1 then (some (decide (a0≤a2))) else (some false))=some r:=h
 clear h
 by_cases c4:a0 ≥ a1
 ·rw [if_pos c4] at H
  have c4b0:decide (a1≤a0)=true:=decide_eq_true c4
  clear c4
  obtain rfl:=Option.some.inj H
  go_enter Try.func111,Try.ntmps111
  go_wp2
  go_ret
  exact ⟨by first|rfl|(simp;done)|(simp [*];done)|(simp [Go.Proofs.YtaiefdhenikiiaaZ.bne_nil];done),by repeat (first|exact Drawn0.refl _|apply Drawn0.step)⟩
 ·rw [if_neg c4] at H
  have c4b0:decide (a1≤a0)=false:=decide_eq_false c4
  clear c4
  obtain rfl:=Option.some.inj H
  go_enter Try.func111,Try.ntmps111
  go_wp2
  go_ret
  exact ⟨by first|rfl|(simp;done)|(simp [*];done)|(simp [Go.Proofs.YtaiefdhenikiiaaZ.bne_nil];done),by repeat (first|exact Drawn0.refl _|apply Drawn0.step)⟩
end Go.Proofs.Ytaiefdhenikiiaa.Base
namespace Go.Proofs.Ytaiefdhenikiiaa.Base
open Go.RowKit Go.Proofs.YtaiefdhenikiiaaW.PrintWords Go.Proofs.YtaiefdhenikiiaaW.PrintLast Go.Proofs.YtaiefdhenikiiaaW.PrintMore
attribute [local go_sem] max2_int qv1_ max_two min_two max_three min_three max_four min_four Go.Proofs.YtaiefdhenikiiaaZ.qe1_   -- for this text's walks alone
set_option linter.unusedVariables false
set_option linter.unusedSimpArgs false
def qb3_.f (a0:Int) (a1:Int):Option (Bool):=(qf2_.f a0 (wrap64 (-a1)) a1).bind fun t149=>(some t149)
set_option maxHeartbeats 8000000 in
set_option maxRecDepth 100000 in
theorem qb3_.calls (a0:Int) (a1:Int) (r:Bool) (w:World) (h:qb3_.f a0 a1=some r) :
  Calls Try.prog 214 #[.int .i64 a0,.int .i64 a1] w fun e w'=>e=.returned (.bool r)∧Drawn0 w w':=by
 have H:((qf2_.f a0 (wrap64 (-a1)) a1).bind fun t149=>(some t149))=some r:=h
 clear h
 replace H:=Option.bind_eq_some_iff.mp H
 obtain ⟨t149,A30,H⟩:=H
 replace H:(some t149)=some r:=H
 have A3:=aK A30
 clear A30
 obtain rfl:=Option.some.inj H
 go_enter Try.func214,Try.ntmps214
 go_wp2_with (first|((with_reducible refine qt_ (f:=111) rfl ?_);refine goesL_ (some 9) rfl rfl Try.func111 (by kernel_rfl) rfl #[.int .i64 a0,.int .i64 (wrap64 (-a1)),.int .i64 a1] rfl (by (try simp only [List.map_toArray,List.map_cons,List.map_nil]);first|done|rfl|(simp only [List.length_drop,List.length_take];rfl)) ?_;(with_reducible refine (qf2_.calls a0 (wrap64 (-a1)) a1 t149 _ A3.out).mono ?_);rintro e w' ⟨rfl,⟨nd,rfl⟩⟩;refine ⟨_,rfl,?_⟩))
 go_ret
 exact ⟨by first|rfl|(simp;done)|(simp [*];done)|(simp [Go.Proofs.YtaiefdhenikiiaaZ.bne_nil];done),by repeat (first|exact Drawn0.refl _|apply Drawn0.step)⟩
end Go.Proofs.Ytaiefdhenikiiaa.Base
namespace Go.Proofs.Ytaiefdhenikiiaa.Base
open Go.RowKit Go.Proofs.YtaiefdhenikiiaaW.PrintWords Go.Proofs.YtaiefdhenikiiaaW.PrintLast Go.Proofs.YtaiefdhenikiiaaW.PrintMore
attribute [local go_sem] max2_int qv1_ max_two min_two max_three min_three max_four min_four Go.Proofs.YtaiefdhenikiiaaZ.qe1_   -- for this text's walks alone
set_option linter.unusedVariables false
set_option linter.unusedSimpArgs false
def qw2_.f (a0:Int):Option (Int):=some (mx a0 (wrap64 (-a0)))
set_option maxHeartbeats 8000000 in
set_option maxRecDepth 100000 in
theorem qw2_.calls (a0:Int) (r:Int) (w:World) (h:qw2_.f a0=some r) :
  Calls Try.prog 228 #[.int .i64 a0] w fun e w'=>e=.returned (.int .i64 r)∧Below w.heap.size w w':=by
 have HB:=aK (Below.refl w.heap.size w)
 have H:(some (mx a0 (wrap64 (-a0))))=some r:=h
 clear h
 obtain ⟨ji2,hji2⟩:∃ j_:Int,(mx a0 (wrap64 (-a0)))=j_:=⟨_,rfl⟩
 replace H:(some ji2)=some r:=by first|(rw [hji2] at H;exact H)|(simp only [hji2] at H ⊢;exact H)
 have hji2_:(if a0 < (wrap64 (-a0)) then (wrap64 (-a0)) else a0)=ji2:=hji2
 obtain rfl:=Option.some.inj H
 go_enter Try.func228,Try.ntmps228
 go_wp2
 go_ret
 exact ⟨by first|rfl|(simp [qn_,qo_] <;> rfl)|(simp only [← hji2];first|rfl|(simp [qn_,qo_] <;> rfl))|(simp [*,qn_,qo_] <;> rfl),by repeat (first|(with_reducible first|exact HB.out|apply qb_|apply qa_|apply qc_)|exact HB.out)⟩
end Go.Proofs.Ytaiefdhenikiiaa.Base
namespace Go.Proofs.Ytaiefdhenikiiaa.Base
open Go.RowKit Go.Proofs.YtaiefdhenikiiaaW.PrintWords Go.Proofs.YtaiefdhenikiiaaW.PrintLast Go.Proofs.YtaiefdhenikiiaaW.PrintMore
attribute [local go_sem] max2_int qv1_ max_two min_two max_three min_three max_four min_four Go.Proofs.YtaiefdhenikiiaaZ.qe1_   -- for this text's walks alone
set_option linter.unusedVariables false
set_option linter.unusedSimpArgs false
def ql1_.l0:Nat→Int→Int→Option (Int)
 | 0,_,_=>none
 | k+1,x0,x1=>if x1=0 then (some x0) else (ql1_.l0 k x1 (Int.tmod x0 x1))
def ql1_.f (k:Nat) (a0:Int) (a1:Int):Option (Int):=(qw2_.f a0).bind fun t150=>((qw2_.f a1).bind fun t151=>(ql1_.l0 k t150 t151))
theorem ql1_.mono_l:∀ k,(∀ y0 y1,LeO (ql1_.l0 k y0 y1) (ql1_.l0 (k+1) y0 y1))
 | 0=>fun _ _ r h=>by simp [ql1_.l0] at h
 | k+1=>by
  have ih0:=ql1_.mono_l k
  ·intro y0 y1
   unfold ql1_.l0
   repeat' first
   | (with_reducible exact ih0 _ _)
   | (with_reducible exact LeO.refl _)
   | (with_reducible exact LeO.none _)
   | (with_reducible refine LeO.ite ?_ ?_)
   | (with_reducible refine LeO.bind ?_ (fun _=>?_))
   | exact ih0 _ _
   | exact LeO.none _
   | refine LeO.ite ?_ ?_
   | refine LeO.bind ?_ (fun _=>?_)
theorem ql1_.mono:∀ a0 a1 k,LeO (ql1_.f k a0 a1) (ql1_.f (k+1) a0 a1):=by
 intro a0 a1 k
 have ih0:=ql1_.mono_l k
 unfold ql1_.f
 repeat' first
   | (with_reducible exact ih0 _ _)
   | (with_reducible exact LeO.refl _)
   | (with_reducible exact LeO.none _)
   | (with_reducible refine LeO.ite ?_ ?_)
   | (with_reducible refine LeO.bind ?_ (fun _=>?_))
   | exact ih0 _ _
   | exact LeO.none _
   | refine LeO.ite ?_ ?_
   | refine LeO.bind ?_ (fun _=>?_)
set_option maxHeartbeats 8000000 in
set_option maxRecDepth 100000 in
theorem ql1_.calls (k:Nat) (a0:Int) (a1:Int) (r:Int) (w:World) (h:ql1_.f k a0 a1=some r) :
  Calls Try.prog 217 #[.int .i64 a0,.int .i64 a1] w fun e w'=>e=.returned (.int .i64 r)∧Below w.heap.size w w':=by
 have HB:=aK (Below.refl w.heap.size w)
 have H:((qw2_.f a0).bind fun t150=>((qw2_.f a1).bind fun t151=>(ql1_.l0 k t150 t151)))=some r:=h
 clear h
 replace H:=Option.bind_eq_some_iff.mp H
 obtain ⟨t150,A30,H⟩:=H
 replace H:((qw2_.f a1).bind fun t151=>(ql1_.l0 k t150 t151))=some r:=H
 have A3:=aK A30
 clear A30
 replace H:=Option.bind_eq_some_iff.mp H
 obtain ⟨t151,A40,H⟩:=H
 replace H:(ql1_.l0 k t150 t151)=some r:=H
 have A4:=aK A40
 clear A40
 have H':=aK H
 clear H
 go_enter Try.func217,Try.ntmps217
 go_wp2_with (first|(go_at_call 228;(with_reducible refine (qw2_.calls a0 t150 _ A3.out).mono ?_);rintro e w5 ⟨rfl,hb⟩;have n0_:=aK (qm_ (by repeat (first|(with_reducible first|exact HB.out|apply qb_|apply qa_|apply qc_)|exact HB.out)) hb);clear HB;have HB:=n0_;clear n0_;(try clear hb);(try clear hb2);(try clear hk);(try clear hi))|(go_at_call 228;(with_reducible refine (qw2_.calls a1 t151 _ A4.out).mono ?_);rintro e w6 ⟨rfl,hb⟩;have n0_:=aK (qm_ (by repeat (first|(with_reducible first|exact HB.out|apply qb_|apply qa_|apply qc_)|exact HB.out)) hb);clear HB;have HB:=n0_;clear n0_;(try clear hb);(try clear hb2);(try clear hk);(try clear hi)))
 repeat (go_quiet (first|(go_at_call 228;(with_reducible refine (qw2_.calls a0 t150 _ A3.out).mono ?_);rintro e w5 ⟨rfl,hb⟩;have n0_:=aK (qm_ (by repeat (first|(with_reducible first|exact HB.out|apply qb_|apply qa_|apply qc_)|exact HB.out)) hb);clear HB;have HB:=n0_;clear n0_;(try clear hb);(try clear hb2);(try clear hk);(try clear hi))|(go_at_call 228;(with_reducible refine (qw2_.calls a1 t151 _ A4.out).mono ?_);rintro e w6 ⟨rfl,hb⟩;have n0_:=aK (qm_ (by repeat (first|(with_reducible first|exact HB.out|apply qb_|apply qa_|apply qc_)|exact HB.out)) hb);clear HB;have HB:=n0_;clear n0_;(try clear hb);(try clear hb2);(try clear hk);(try clear hi)));try go_wp2_with (first|(go_at_call 228;(with_reducible refine (qw2_.calls a0 t150 _ A3.out).mono ?_);rintro e w5 ⟨rfl,hb⟩;have n0_:=aK (qm_ (by repeat (first|(with_reducible first|exact HB.out|apply qb_|apply qa_|apply qc_)|exact HB.out)) hb);clear HB;have HB:=n0_;clear n0_;(try clear hb);(try clear hb2);(try clear hk);(try clear hi))|(go_at_call 228;(with_reducible refine (qw2_.calls a1 t151 _ A4.out).mono ?_);rintro e w6 ⟨rfl,hb⟩;have n0_:=aK (qm_ (by repeat (first|(with_reducible first|exact HB.out|apply qb_|apply qa_|apply qc_)|exact HB.out)) hb);clear HB;have HB:=n0_;clear n0_;(try clear hb);(try clear hb2);(try clear hk);(try clear hi))))
 go_loopg [0,1] k (fun kq v0 v1 w'=>∃ (x0_1:Int) (x1_1:Int),v0=.int .i64 x0_1∧v1=.int .i64 x1_1∧Aside0 (ql1_.l0 kq x0_1 x1_1=some r)∧Aside0 (kq≤k)∧Aside0 (Below w.heap.size w w'))
 case atStart=>exact ⟨(t150),(t151),(by first|rfl|(simp;done)|(simp [*];done)),(by first|rfl|(simp;done)|(simp [*];done)),H',⟨Nat.le_refl _⟩,⟨by repeat (first|(with_reducible first|exact HB.out|apply qb_|apply qa_|apply qc_)|exact HB.out)⟩⟩
 case round =>
  clear H'
  try clear c2
  try clear p2
  obtain ⟨x0_1,x1_1,rfl,rfl,HA,HK1,HB⟩:=hrel
  cases gk with
  | zero=>exact absurd HA.out (by simp [ql1_.l0])
  | succ k1 =>
   have H:=HA.out
   clear HA
   simp only [ql1_.l0] at H
   by_cases c7:x1_1=0
   ·rw [if_pos c7] at H
    have c7b0:(x1_1 == 0)=true:=beq_iff_eq.mpr c7
    have c7b1:(x1_1 != 0)=false:=bne_eq_false_iff_eq.mpr c7
    clear c7
    obtain rfl:=Option.some.inj H
    go_wp2
    repeat (go_quiet (fail);try go_wp2)
    go_ret
    exact ⟨by first|rfl|(simp [qn_,qo_] <;> rfl)|(simp [*,qn_,qo_] <;> rfl),by repeat (first|(with_reducible first|exact HB.out|apply qb_|apply qa_|apply qc_)|exact HB.out)⟩
   ·rw [if_neg c7] at H
    have c7b0:(x1_1 == 0)=false:=beq_eq_false_iff_ne.mpr c7
    have c7b1:(x1_1 != 0)=true:=bne_iff_ne.mpr c7
    have H':=aK H
    clear H
    go_wp2
    repeat (go_quiet (fail);try go_wp2)
    go_roundg k1
    case measure=>have:=HK1.out;omega
    case rel=>exact ⟨(x1_1),(Int.tmod x0_1 x1_1),(by first|rfl|(simp;done)|(simp [*];done)),(by first|rfl|(simp;done)|(simp [*];done)),H',⟨by have:=HK1.out;omega⟩,⟨by repeat (first|(with_reducible first|exact HB.out|apply qb_|apply qa_|apply qc_)|exact HB.out)⟩⟩
end Go.Proofs.Ytaiefdhenikiiaa.Base
namespace Go.Proofs.Ytaiefdhenikiiaa.Base
open Go.RowKit Go.Proofs.YtaiefdhenikiiaaW.PrintWords Go.Proofs.YtaiefdhenikiiaaW.PrintLast Go.Proofs.YtaiefdhenikiiaaW.PrintMore
attribute [local go_sem] max2_int qv1_ max_two min_two max_three min_three max_four min_four Go.Proofs.YtaiefdhenikiiaaZ.qe1_   -- for this text's walks alone
set_option linter.unusedVariables false
set_option linter.unusedSimpArgs false
def qg1_.f (k:Nat) (a0_0:Int) (a0_1:Int):Option (Bool):=(qf2_.f a0_1 1 1000000000).bind fun t153=>(if t153=true then ((qb3_.f a0_0 1000000000).bind fun t154=>(if t154=true then ((ql1_.f k a0_0 a0_1).bind fun t155=>(some (t155 == 1))) else (some false))) else (some false))
theorem qg1_.mono:∀ a0 a1 k,LeO (qg1_.f k a0 a1) (qg1_.f (k+1) a0 a1):=by
 intro a0 a1 k
 unfold qg1_.f
 repeat' first
   | (with_reducible exact ql1_.mono _ _ _)
   | (with_reducible exact LeO.refl _)
   | (with_reducible exact LeO.none _)
   | (with_reducible refine LeO.ite ?_ ?_)
   | (with_reducible refine LeO.bind ?_ (fun _=>?_))
   | exact ql1_.mono _ _ _
   | exact LeO.none _
   | refine LeO.ite ?_ ?_
   | refine LeO.bind ?_ (fun _=>?_)
set_option maxHeartbeats 8000000 in
set_option maxRecDepth 100000 in
theorem qg1_.calls (k:Nat) (a0_0:Int) (a0_1:Int) (r:Bool) (w:World) (h:qg1_.f k a0_0 a0_1=some r) :
  Calls Try.prog 206 #[.agg #[.int .i64 a0_0,.int .i64 a0_1]] w fun e w'=>e=.returned (.bool r)∧Below w.heap.size w w':=by
 have hu77:=Try.underlying77
 have HB:=aK (Below.refl w.heap.size w)
 have H:((qf2_.f a0_1 1 1000000000).bind fun t153=>(if t153=true then ((qb3_.f a0_0 1000000000).bind fun t154=>(if t154=true then ((ql1_.f k a0_0 a0_1).bind fun t155=>(some (t155 == 1))) else (some false))) else (some false)))=some r:=h
 clear h
 replace H:=Option.bind_eq_some_iff.mp H
 obtain ⟨t153,A20,H⟩:=H
 replace H:(if t153=true then ((qb3_.f a0_0 1000000000).bind fun t154=>(if t154=true then ((ql1_.f k a0_0 a0_1).bind fun t155=>(some (t155 == 1))) else (some false))) else (some false))=some r:=H
 have A2:=aK A20
 clear A20
 by_cases c3:t153=true
 ·subst c3
  have H1:((qb3_.f a0_0 1000000000).bind fun t154=>(if t154=true then ((ql1_.f k a0_0 a0_1).bind fun t155=>(some (t155 == 1))) else (some false)))=some r:=by rw [if_pos rfl] at H;exact H
  clear H
  have H:=H1
  clear H1
  replace H:=Option.bind_eq_some_iff.mp H
  obtain ⟨t154,A40,H⟩:=H
  replace H:(if t154=true then ((ql1_.f k a0_0 a0_1).bind fun t155=>(some (t155 == 1))) else (some false))=some r:=H
  have A4:=aK A40
  clear A40
  by_cases c5:t154=true
  ·subst c5
   have H1:((ql1_.f k a0_0 a0_1).bind fun t155=>(some (t155 == 1)))=some r:=by rw [if_pos rfl] at H;exact H
   clear H
   have H:=H1
   clear H1
   replace H:=Option.bind_eq_some_iff.mp H
   obtain ⟨t155,A60,H⟩:=H
   replace H:(some (t155 == 1))=some r:=H
   have A6:=aK A60
   clear A60
   obtain rfl:=Option.some.inj H
   go_enter Try.func206,Try.ntmps206
   go_wp2_with (first|((with_reducible refine qz_ (N:=1) rfl ?_);refine qv_ ?hg (N:=1) ?hd (cs:=#[.int .i64 a0_0,.int .i64 a0_1]) (t:=77) ?hr ?_;(case hd=>rfl);(case hg=>rfl);(case hr=>first|(go_simp;done)|(go_simp;rfl));intro gb152 hg w7 hbox hb;have n0_:=aK (qm_ (by repeat (first|(with_reducible first|exact HB.out|apply qb_|apply qa_|apply qc_)|exact HB.out)) hb);have n1_:=aK (hbox);have n2_:=aK ((by rw [hg];exact (qk_ (by repeat (first|(with_reducible first|exact HB.out|apply qb_|apply qa_|apply qc_)|exact HB.out))):w.heap.size≤gb152));have n3_:=aK ((by rw [hg];exact (qk_ (by repeat (first|(with_reducible first|exact HB.out|apply qb_|apply qa_|apply qc_)|exact HB.out))):w.heap.size≤gb152));clear HB;have HB:=n0_;have BK152:=n1_;have GW152:=n2_;have GE152:=n3_;clear n0_ n1_ n2_ n3_;clear hb hbox hg;have hcz8_0:w7.cell? ⟨gb152,0,none⟩=some (.int .i64 a0_0):=(qi_ BK152.out 0).trans rfl;have hcz8_1:w7.cell? ⟨gb152,1,none⟩=some (.int .i64 a0_1):=(qi_ BK152.out 1).trans rfl;have hfz8_0:=qh_ BK152.out 0;have hfz8_1:=qh_ BK152.out 1)|((with_reducible refine qt_ (f:=111) rfl ?_);refine goesL_ (some 5) rfl rfl Try.func111 (by kernel_rfl) rfl #[.int .i64 a0_1,.int .i64 1,.int .i64 1000000000] rfl (by (try simp only [List.map_toArray,List.map_cons,List.map_nil]);first|done|rfl|(simp only [List.length_drop,List.length_take];rfl)) ?_;(with_reducible refine (qf2_.calls a0_1 1 1000000000 true _ A2.out).mono ?_);rintro e w' ⟨rfl,⟨nd,rfl⟩⟩;refine ⟨_,rfl,?_⟩)|(go_at_call 214;(with_reducible refine (qb3_.calls a0_0 1000000000 true _ A4.out).mono ?_);rintro e w' ⟨rfl,⟨nd,rfl⟩⟩)|(go_at_call 217;(with_reducible refine (ql1_.calls k a0_0 a0_1 t155 _ A6.out).mono ?_);rintro e w9 ⟨rfl,hb⟩;have n0_:=aK (ql_ (g:=gb152) (o:=.cells #[.int .i64 a0_0,.int .i64 a0_1] 77 (0,0)) (by (with_reducible repeat (first|refine qe_ ?_ _|refine qg_ ?_|refine qd_ ?_ _));exact BK152.out) hb);have n1_:=aK (qm_ (by repeat (first|(with_reducible first|exact HB.out|apply qb_|apply qa_|apply qc_|refine qf_ ?_ GE152.out)|exact HB.out)) hb);clear BK152;clear HB;have BK152:=n0_;have HB:=n1_;clear n0_ n1_;(try clear hb);(try clear hb2);(try clear hk);(try clear hi)))
   go_ret
   exact ⟨by first|rfl|(simp [qn_,qo_] <;> rfl)|(simp [*,qn_,qo_] <;> rfl),by repeat (first|(with_reducible first|exact HB.out|apply qb_|apply qa_|apply qc_|refine qf_ ?_ GE152.out)|exact HB.out)⟩
  ·replace c5:=Bool.eq_false_iff.mpr c5
   subst c5
   have H1:(some false)=some r:=by rw [if_neg (show ¬ (false=true) by decide)] at H;exact H
   clear H
   have H:=H1
   clear H1
   obtain rfl:=Option.some.inj H
   go_enter Try.func206,Try.ntmps206
   go_wp2_with (first|((with_reducible refine qz_ (N:=1) rfl ?_);refine qv_ ?hg (N:=1) ?hd (cs:=#[.int .i64 a0_0,.int .i64 a0_1]) (t:=77) ?hr ?_;(case hd=>rfl);(case hg=>rfl);(case hr=>first|(go_simp;done)|(go_simp;rfl));intro gb152 hg w10 hbox hb;have n0_:=aK (qm_ (by repeat (first|(with_reducible first|exact HB.out|apply qb_|apply qa_|apply qc_)|exact HB.out)) hb);have n1_:=aK (hbox);have n2_:=aK ((by rw [hg];exact (qk_ (by repeat (first|(with_reducible first|exact HB.out|apply qb_|apply qa_|apply qc_)|exact HB.out))):w.heap.size≤gb152));have n3_:=aK ((by rw [hg];exact (qk_ (by repeat (first|(with_reducible first|exact HB.out|apply qb_|apply qa_|apply qc_)|exact HB.out))):w.heap.size≤gb152));clear HB;have HB:=n0_;have BK152:=n1_;have GW152:=n2_;have GE152:=n3_;clear n0_ n1_ n2_ n3_;clear hb hbox hg;have hcz11_0:w10.cell? ⟨gb152,0,none⟩=some (.int .i64 a0_0):=(qi_ BK152.out 0).trans rfl;have hcz11_1:w10.cell? ⟨gb152,1,none⟩=some (.int .i64 a0_1):=(qi_ BK152.out 1).trans rfl;have hfz11_0:=qh_ BK152.out 0;have hfz11_1:=qh_ BK152.out 1)|((with_reducible refine qt_ (f:=111) rfl ?_);refine goesL_ (some 5) rfl rfl Try.func111 (by kernel_rfl) rfl #[.int .i64 a0_1,.int .i64 1,.int .i64 1000000000] rfl (by (try simp only [List.map_toArray,List.map_cons,List.map_nil]);first|done|rfl|(simp only [List.length_drop,List.length_take];rfl)) ?_;(with_reducible refine (qf2_.calls a0_1 1 1000000000 true _ A2.out).mono ?_);rintro e w' ⟨rfl,⟨nd,rfl⟩⟩;refine ⟨_,rfl,?_⟩)|(go_at_call 214;(with_reducible refine (qb3_.calls a0_0 1000000000 false _ A4.out).mono ?_);rintro e w' ⟨rfl,⟨nd,rfl⟩⟩))
   go_ret
   exact ⟨by first|rfl|(simp [qn_,qo_] <;> rfl)|(simp [*,qn_,qo_] <;> rfl),by repeat (first|(with_reducible first|exact HB.out|apply qb_|apply qa_|apply qc_|refine qf_ ?_ GE152.out)|exact HB.out)⟩
 ·replace c3:=Bool.eq_false_iff.mpr c3
  subst c3
  have H1:(some false)=some r:=by rw [if_neg (show ¬ (false=true) by decide)] at H;exact H
  clear H
  have H:=H1
  clear H1
  obtain rfl:=Option.some.inj H
  go_enter Try.func206,Try.ntmps206
  go_wp2_with (first|((with_reducible refine qz_ (N:=1) rfl ?_);refine qv_ ?hg (N:=1) ?hd (cs:=#[.int .i64 a0_0,.int .i64 a0_1]) (t:=77) ?hr ?_;(case hd=>rfl);(case hg=>rfl);(case hr=>first|(go_simp;done)|(go_simp;rfl));intro gb152 hg w12 hbox hb;have n0_:=aK (qm_ (by repeat (first|(with_reducible first|exact HB.out|apply qb_|apply qa_|apply qc_)|exact HB.out)) hb);have n1_:=aK (hbox);have n2_:=aK ((by rw [hg];exact (qk_ (by repeat (first|(with_reducible first|exact HB.out|apply qb_|apply qa_|apply qc_)|exact HB.out))):w.heap.size≤gb152));have n3_:=aK ((by rw [hg];exact (qk_ (by repeat (first|(with_reducible first|exact HB.out|apply qb_|apply qa_|apply qc_)|exact HB.out))):w.heap.size≤gb152));clear HB;have HB:=n0_;have BK152:=n1_;have GW152:=n2_;have GE152:=n3_;clear n0_ n1_ n2_ n3_;clear hb hbox hg;have hcz13_0:w12.cell? ⟨gb152,0,none⟩=some (.int .i64 a0_0):=(qi_ BK152.out 0).trans rfl;have hcz13_1:w12.cell? ⟨gb152,1,none⟩=some (.int .i64 a0_1):=(qi_ BK152.out 1).trans rfl;have hfz13_0:=qh_ BK152.out 0;have hfz13_1:=qh_ BK152.out 1)|((with_reducible refine qt_ (f:=111) rfl ?_);refine goesL_ (some 5) rfl rfl Try.func111 (by kernel_rfl) rfl #[.int .i64 a0_1,.int .i64 1,.int .i64 1000000000] rfl (by (try simp only [List.map_toArray,List.map_cons,List.map_nil]);first|done|rfl|(simp only [List.length_drop,List.length_take];rfl)) ?_;(with_reducible refine (qf2_.calls a0_1 1 1000000000 false _ A2.out).mono ?_);rintro e w' ⟨rfl,⟨nd,rfl⟩⟩;refine ⟨_,rfl,?_⟩))
  go_ret
  exact ⟨by first|rfl|(simp [qn_,qo_] <;> rfl)|(simp [*,qn_,qo_] <;> rfl),by repeat (first|(with_reducible first|exact HB.out|apply qb_|apply qa_|apply qc_|refine qf_ ?_ GE152.out)|exact HB.out)⟩
end Go.Proofs.Ytaiefdhenikiiaa.Base
namespace Go.Proofs.Ytaiefdhenikiiaa.Base
open Go.RowKit Go.Proofs.YtaiefdhenikiiaaW.PrintWords Go.Proofs.YtaiefdhenikiiaaW.PrintLast Go.Proofs.YtaiefdhenikiiaaW.PrintMore
attribute [local go_sem] max2_int qv1_ max_two min_two max_three min_three max_four min_four Go.Proofs.YtaiefdhenikiiaaZ.qe1_   -- for this text's walks alone
set_option linter.unusedVariables false
set_option linter.unusedSimpArgs false
def qb2_.f (k:Nat) (a0:Int) (a1:Int):Option (Int × Int × Bool):=(ql1_.f k a0 a1).bind fun t407=>(if a1 < 0 then (if (wrap64 (-t407))=0 then (none) else ((qg1_.f k (wrap64 (Int.tdiv a0 (wrap64 (-t407)))) (wrap64 (Int.tdiv a1 (wrap64 (-t407))))).bind fun t409=>(some (wrap64 (Int.tdiv a0 (wrap64 (-t407))),wrap64 (Int.tdiv a1 (wrap64 (-t407))),t409)))) else (if t407=0 then (none) else ((qg1_.f k (wrap64 (Int.tdiv a0 t407)) (wrap64 (Int.tdiv a1 t407))).bind fun t411=>(some (wrap64 (Int.tdiv a0 t407),wrap64 (Int.tdiv a1 t407),t411)))))
theorem qb2_.mono:∀ a0 a1 k,LeO (qb2_.f k a0 a1) (qb2_.f (k+1) a0 a1):=by
 intro a0 a1 k
 unfold qb2_.f
 repeat' first
   | (with_reducible exact qg1_.mono _ _ _)
   | (with_reducible exact ql1_.mono _ _ _)
   | (with_reducible exact LeO.refl _)
   | (with_reducible exact LeO.none _)
   | (with_reducible refine LeO.ite ?_ ?_)
   | (with_reducible refine LeO.bind ?_ (fun _=>?_))
   | exact qg1_.mono _ _ _
   | exact ql1_.mono _ _ _
   | exact LeO.none _
   | refine LeO.ite ?_ ?_
   | refine LeO.bind ?_ (fun _=>?_)
def qb2_.T4:Bool × List (List Nat × List Nat):=(true,[([],[]),([],[]),([0,1],[0,1]),([],[]),([],[]),([3,4],[3,4]),([2,5],[2,5]),([],[]),([7,6,0,1,2,3,4,5,6,7],[6,7])])
def qb2_.B4:List Nat:=[0,0,3,0,0,24,63,0,255]
theorem qb2_.tab4:rtab .any (opsOf Try.f181 4)=qb2_.T4:=by kernel_rfl
theorem qb2_.bits4:waitsOk qb2_.T4.2 qb2_.B4=true:=by kernel_rfl
set_option maxHeartbeats 8000000 in
set_option maxRecDepth 100000 in
theorem qb2_.calls (k:Nat) (a0:Int) (a1:Int) (r1:Int) (r2:Int) (r3:Bool) (w:World) (h:qb2_.f k a0 a1=some (r1,r2,r3)) :
  Calls Try.prog 181 #[.int .i64 a0,.int .i64 a1] w fun e w'=>e=.returned (.tuple #[.agg #[.int .i64 r1,.int .i64 r2],.bool r3])∧Below w.heap.size w w':=by
 have hu77:=Try.underlying77
 have HB:=aK (Below.refl w.heap.size w)
 have H:((ql1_.f k a0 a1).bind fun t407=>(if a1 < 0 then (if (wrap64 (-t407))=0 then (none) else ((qg1_.f k (wrap64 (Int.tdiv a0 (wrap64 (-t407)))) (wrap64 (Int.tdiv a1 (wrap64 (-t407))))).bind fun t409=>(some (wrap64 (Int.tdiv a0 (wrap64 (-t407))),wrap64 (Int.tdiv a1 (wrap64 (-t407))),t409)))) else (if t407=0 then (none) else ((qg1_.f k (wrap64 (Int.tdiv a0 t407)) (wrap64 (Int.tdiv a1 t407))).bind fun t411=>(some (wrap64 (Int.tdiv a0 t407),wrap64 (Int.tdiv a1 t407),t411))))))=some (r1,r2,r3):=h
 clear h
 replace H:=Option.bind_eq_some_iff.mp H
 obtain ⟨t407,A30,H⟩:=H
 replace H:(if a1 < 0 then (if (wrap64 (-t407))=0 then (none) else ((qg1_.f k (wrap64 (Int.tdiv a0 (wrap64 (-t407)))) (wrap64 (Int.tdiv a1 (wrap64 (-t407))))).bind fun t409=>(some (wrap64 (Int.tdiv a0 (wrap64 (-t407))),wrap64 (Int.tdiv a1 (wrap64 (-t407))),t409)))) else (if t407=0 then (none) else ((qg1_.f k (wrap64 (Int.tdiv a0 t407)) (wrap64 (Int.tdiv a1 t407))).bind fun t411=>(some (wrap64 (Int.tdiv a0 t407),wrap64 (Int.tdiv a1 t407),t411)))))=some (r1,r2,r3):=H
 have A3:=aK A30
 clear A30
 by_cases c4:a1 < 0
 ·rw [if_pos c4] at H
  have c4b0:decide (a1 < 0)=true:=decide_eq_true c4
  clear c4
  by_cases c5:(wrap64 (-t407))=0
  ·rw [if_pos c5] at H
   exact absurd H (by simp)
  ·rw [if_neg c5] at H
   have c5b0:((wrap64 (-t407)) == 0)=false:=beq_eq_false_iff_ne.mpr c5
   have c5b1:((wrap64 (-t407)) != 0)=true:=bne_iff_ne.mpr c5
   replace H:=Option.bind_eq_some_iff.mp H
   obtain ⟨t409,A60,H⟩:=H
   replace H:(some (wrap64 (Int.tdiv a0 (wrap64 (-t407))),wrap64 (Int.tdiv a1 (wrap64 (-t407))),t409))=some (r1,r2,r3):=H
   have A6:=aK A60
   clear A60
   simp only [Option.some.injEq,Prod.mk.injEq] at H
   obtain ⟨rfl,rfl,rfl⟩:=H
   go_enter Try.func181,Try.ntmps181
   try go_wp2_with (first|((with_reducible refine qz_ (N:=4) rfl ?_);refine qv_ ?hg (N:=4) ?hd (cs:=#[.int .i64 0,.int .i64 0]) (t:=77) ?hr ?_;(case hd=>rfl);(case hg=>rfl);(case hr=>first|(go_simp;done)|(go_simp;rfl));intro gb406 hg w7 hbox hb;have n0_:=aK (qm_ (by repeat (first|(with_reducible first|exact HB.out|apply qb_|apply qa_|apply qc_)|exact HB.out)) hb);have n1_:=aK (hbox);have n2_:=aK ((by rw [hg];exact (qk_ (by repeat (first|(with_reducible first|exact HB.out|apply qb_|apply qa_|apply qc_)|exact HB.out))):w.heap.size≤gb406));have n3_:=aK ((by rw [hg];exact (qk_ (by repeat (first|(with_reducible first|exact HB.out|apply qb_|apply qa_|apply qc_)|exact HB.out))):w.heap.size≤gb406));clear HB;have HB:=n0_;have BK406:=n1_;have GW406:=n2_;have GE406:=n3_;clear n0_ n1_ n2_ n3_;clear hb hbox hg)|((with_reducible refine qt_ (f:=217) rfl ?_);refine goesL_ (some 10) rfl rfl Try.func217 (by kernel_rfl) rfl #[.int .i64 a0,.int .i64 a1] rfl (by (try simp only [List.map_toArray,List.map_cons,List.map_nil]);first|done|rfl|(simp only [List.length_drop,List.length_take];rfl)) ?_;(with_reducible refine (ql1_.calls k a0 a1 t407 _ A3.out).mono ?_);rintro e w8 ⟨rfl,hb⟩;refine ⟨_,rfl,?_⟩;have n0_:=aK (ql_ (g:=gb406) (o:=.cells #[.int .i64 0,.int .i64 0] 77 (0,0)) (by (with_reducible repeat (first|refine qe_ ?_ _|refine qg_ ?_|refine qd_ ?_ _));exact BK406.out) hb);have n1_:=aK (qm_ (by repeat (first|(with_reducible first|exact HB.out|apply qb_|apply qa_|apply qc_|refine qf_ ?_ GE406.out)|exact HB.out)) hb);clear BK406;clear HB;have BK406:=n0_;have HB:=n1_;clear n0_ n1_;(try clear hb);(try clear hb2);(try clear hk);(try clear hi)))
   have n0_:=aK (qg_ BK406.out)
   have n1_:=aK (qc_ HB.out)
   clear BK406
   clear HB
   have BK406:=n0_
   have HB:=n1_
   clear n0_ n1_
   refine start_ (n:=9) (S:=fun w'=>True) (ds:=[]) #[fF,fF,fF,fF,fF,fF,fF,fF,fF] (by kernel_rfl) rfl rfl trivial (fun hHeld=>?_);refine with_tabW qb2_.tab4 qb2_.bits4 (fun HT_ HW_=>?_)
   generalize w8.drew=w9 at BK406 HB hHeld ⊢
   refine pure_ (i:=0) (N:=some 15) (v:=?_) (a':=?_) #[tT,fF,fF,fF,fF,fF,fF,fF,fF] rfl rfl (any_of HT_.out (by kernel_rfl)) (fun _ _ _ h=>h) (Or.inl ⟨by rfl,?_⟩) ?_ ?_
   rotate_left
   ·intro w'
    go_simp
    with_reducible rfl
   rotate_left
   ·simp only [Act.put,List.setIfInBounds_toArray,List.set_cons_zero,List.set_cons_succ,i64_w,i32_w]
    rfl
   refine pure_ (i:=1) (N:=some 16) (v:=?_) (a':=?_) #[tT,tT,fF,fF,fF,fF,fF,fF,fF] rfl rfl (any_of HT_.out (by kernel_rfl)) (fun _ _ _ h=>h) (Or.inl ⟨by rfl,?_⟩) ?_ ?_
   rotate_left
   ·intro w'
    go_simp
    with_reducible rfl
   rotate_left
   ·simp only [Act.put,List.setIfInBounds_toArray,List.set_cons_zero,List.set_cons_succ,i64_w,i32_w]
    rfl
   refine pure_ (i:=2) (N:=some 17) (v:=?_) (a':=?_) #[tT,tT,tT,fF,fF,fF,fF,fF,fF] rfl rfl (any_of HT_.out (by kernel_rfl)) (fun _ _ _ h=>h) (Or.inl ⟨by rfl,?_⟩) ?_ ?_
   rotate_left
   ·intro w'
    go_simp
    with_reducible rfl
   rotate_left
   ·simp only [Act.put,List.setIfInBounds_toArray,List.set_cons_zero,List.set_cons_succ,i64_w,i32_w]
    rfl
   refine pure_ (i:=3) (N:=some 18) (v:=?_) (a':=?_) #[tT,tT,tT,tT,fF,fF,fF,fF,fF] rfl rfl (any_of HT_.out (by kernel_rfl)) (fun _ _ _ h=>h) (Or.inl ⟨by rfl,?_⟩) ?_ ?_
   rotate_left
   ·intro w'
    go_simp
    with_reducible rfl
   rotate_left
   ·simp only [Act.put,List.setIfInBounds_toArray,List.set_cons_zero,List.set_cons_succ,i64_w,i32_w]
    rfl
   refine pure_ (i:=4) (N:=some 19) (v:=?_) (a':=?_) #[tT,tT,tT,tT,tT,fF,fF,fF,fF] rfl rfl (any_of HT_.out (by kernel_rfl)) (fun _ _ _ h=>h) (Or.inl ⟨by rfl,?_⟩) ?_ ?_
   rotate_left
   ·intro w'
    go_simp
    with_reducible rfl
   rotate_left
   ·simp only [Act.put,List.setIfInBounds_toArray,List.set_cons_zero,List.set_cons_succ,i64_w,i32_w]
    rfl
   refine pure_ (i:=5) (N:=some 20) (v:=?_) (a':=?_) #[tT,tT,tT,tT,tT,tT,fF,fF,fF] rfl rfl (any_of HT_.out (by kernel_rfl)) (fun _ _ _ h=>h) (Or.inl ⟨by rfl,?_⟩) ?_ ?_
   rotate_left
   ·intro w'
    go_simp
    with_reducible rfl
   rotate_left
   ·simp only [Act.put,List.setIfInBounds_toArray,List.set_cons_zero,List.set_cons_succ,i64_w,i32_w]
    rfl
   refine pure_ (i:=6) (N:=some 21) (v:=?_) (a':=?_) #[tT,tT,tT,tT,tT,tT,tT,fF,fF] rfl rfl (any_of HT_.out (by kernel_rfl)) (fun _ _ _ h=>h) (Or.inl ⟨by rfl,?_⟩) ?_ ?_
   rotate_left
   ·intro w'
    go_simp
    with_reducible rfl
   rotate_left
   ·simp only [Act.put,List.setIfInBounds_toArray,List.set_cons_zero,List.set_cons_succ,i64_w,i32_w]
    rfl
   refine one_ (i:=7) (N:=some 7) #[tT,tT,tT,tT,tT,tT,tT,tT,fF] rfl rfl (one_of HT_.out (by kernel_rfl)) (by decide) (fun K hK=>?_)
   refine box_step ?hg (N:=7) ?hd (cs:=#[.int .i64 0,.int .i64 0]) (t:=77) ?hr ?_;(case hd=>rfl);(case hg=>rfl);(case hr=>first|(go_simp;done)|(go_simp;rfl))
   intro gb408 hg w10 hbox hb
   have n0_:=aK (ql_ (g:=gb406) (o:=.cells #[.int .i64 0,.int .i64 0] 77 (0,0)) (by (with_reducible repeat (first|refine qe_ ?_ _|refine qg_ ?_|refine qd_ ?_ _));exact BK406.out) hb)
   have n1_:=aK (qm_ (by repeat (first|(with_reducible first|exact HB.out|apply qb_|apply qa_|apply qc_|refine qf_ ?_ GE406.out)|exact HB.out)) hb)
   have n2_:=aK (hbox)
   have n3_:=aK ((by rw [hg];exact (qk_ (by repeat (first|(with_reducible first|exact HB.out|apply qb_|apply qa_|apply qc_|refine qf_ ?_ GE406.out)|exact HB.out))):w.heap.size≤gb408))
   have n4_:=aK ((by rw [hg];exact (qk_ (by repeat (first|(with_reducible first|exact HB.out|apply qb_|apply qa_|apply qc_|refine qf_ ?_ GE406.out)|exact HB.out))):w.heap.size≤gb408))
   have n5_:=aK ((by rw [hg];exact Nat.ne_of_lt (blk_lt (g:=gb406) (o:=.cells #[.int .i64 0,.int .i64 0] 77 (0,0)) (by (with_reducible repeat (first|refine qe_ ?_ _|refine qg_ ?_|refine qd_ ?_ _));exact BK406.out)):gb406 ≠ gb408))
   have n6_:=aK ((by rw [hg];exact Nat.ne_of_gt (blk_lt (g:=gb406) (o:=.cells #[.int .i64 0,.int .i64 0] 77 (0,0)) (by (with_reducible repeat (first|refine qe_ ?_ _|refine qg_ ?_|refine qd_ ?_ _));exact BK406.out)):gb408 ≠ gb406))
   clear BK406
   clear HB
   have BK406:=n0_
   have HB:=n1_
   have BK408:=n2_
   have GW408:=n3_
   have GE408:=n4_
   have NB406_408:=n5_
   have NB408_406:=n6_
   clear n0_ n1_ n2_ n3_ n4_ n5_ n6_
   clear hb hbox hg
   refine hK.out _ _ trivial (fun hHeld=>?_)
   clear hK K
   refine norm_ (a':=?_) ?_ ?_
   rotate_left
   ·show Act.put _ (some 7) _=_
    simp only [Act.put,List.setIfInBounds_toArray,List.set_cons_zero,List.set_cons_succ,i64_w,i32_w]
    rfl
   refine one_ (i:=8) (N:=none) #[tT,tT,tT,tT,tT,tT,tT,tT,tT] rfl rfl (one_of HT_.out (by kernel_rfl)) (by decide) (fun K hK=>?_)
   have hs11:w10.cell? ⟨gb408,0,none⟩=some (.int .i64 0):=(qi_ BK408.out 0).trans rfl
   have hfs11:=qh_ BK408.out 0
   have hns11_0:=NB406_408.out
   have hms11_0:=NB408_406.out
   have hs12:w10.cell? ⟨gb408,1,none⟩=some (.int .i64 0):=(qi_ BK408.out 1).trans rfl
   have hfs12:=qh_ BK408.out 1
   have hns12_0:=NB406_408.out
   have hms12_0:=NB408_406.out
   refine skip_ (w1:=?_) (by rfl) rfl ?_ ?_
   rotate_left
   ·go_simp
    rfl
   refine hK.out _ _ trivial (fun hHeld=>?_)
   clear hK K
   refine done_ (done_of HT_.out (by kernel_rfl)) ?_
   try go_wp2
   have n0_:Aside0 (((w10.setCell ⟨gb408,0,none⟩ (.int .i64 (wrap64 (Int.tdiv a0 (wrap64 (-t407)))))).setCell ⟨gb408,1,none⟩ (.int .i64 (wrap64 (Int.tdiv a1 (wrap64 (-t407)))))).heap[gb406]?=some (.cells #[.int .i64 0,.int .i64 0] 77 (0,0))):=⟨by (with_reducible repeat (first|refine qe_ ?_ _|refine qg_ ?_|refine qd_ ?_ _));refine qa1_ ?_ NB406_408.out _;(with_reducible repeat (first|refine qe_ ?_ _|refine qg_ ?_|refine qd_ ?_ _));refine qa1_ ?_ NB406_408.out _;(with_reducible repeat (first|refine qe_ ?_ _|refine qg_ ?_|refine qd_ ?_ _));exact BK406.out⟩
   have n1_:Aside0 (((w10.setCell ⟨gb408,0,none⟩ (.int .i64 (wrap64 (Int.tdiv a0 (wrap64 (-t407)))))).setCell ⟨gb408,1,none⟩ (.int .i64 (wrap64 (Int.tdiv a1 (wrap64 (-t407)))))).heap[gb408]?=some (.cells #[.int .i64 (wrap64 (Int.tdiv a0 (wrap64 (-t407)))),.int .i64 (wrap64 (Int.tdiv a1 (wrap64 (-t407))))] 77 (0,0))):=⟨by (with_reducible repeat (first|refine qe_ ?_ _|refine qg_ ?_|refine qd_ ?_ _));refine qy_ (cs:=#[.int .i64 (wrap64 (Int.tdiv a0 (wrap64 (-t407)))),.int .i64 0]) ?_ 1 _ rfl;(with_reducible repeat (first|refine qe_ ?_ _|refine qg_ ?_|refine qd_ ?_ _));refine qy_ (cs:=#[.int .i64 0,.int .i64 0]) ?_ 0 _ rfl;(with_reducible repeat (first|refine qe_ ?_ _|refine qg_ ?_|refine qd_ ?_ _));exact BK408.out⟩
   have n2_:Aside0 (Below w.heap.size w ((w10.setCell ⟨gb408,0,none⟩ (.int .i64 (wrap64 (Int.tdiv a0 (wrap64 (-t407)))))).setCell ⟨gb408,1,none⟩ (.int .i64 (wrap64 (Int.tdiv a1 (wrap64 (-t407))))))):=⟨by repeat (first|(with_reducible first|exact HB.out|apply qb_|apply qa_|apply qc_|refine qf_ ?_ GE406.out|refine qf_ ?_ GE408.out)|exact HB.out)⟩
   (try clear BK406)
   (try clear BK408)
   (try clear HB)
   generalize ((w10.setCell ⟨gb408,0,none⟩ (.int .i64 (wrap64 (Int.tdiv a0 (wrap64 (-t407)))))).setCell ⟨gb408,1,none⟩ (.int .i64 (wrap64 (Int.tdiv a1 (wrap64 (-t407))))))=w13 at n0_ n1_ n2_ ⊢
   have BK406:=n0_
   have BK408:=n1_
   have HB:=n2_
   clear n0_ n1_ n2_
   have n0_:=aK (qg_ BK406.out)
   have n1_:=aK (qg_ BK408.out)
   have n2_:=aK (qc_ HB.out)
   clear BK406
   clear BK408
   clear HB
   have BK406:=n0_
   have BK408:=n1_
   have HB:=n2_
   clear n0_ n1_ n2_
   refine start_ (n:=5) (S:=fun w'=>w'.cell? ⟨gb408,0,none⟩=some (.int .i64 (wrap64 (Int.tdiv a0 (wrap64 (-t407)))))∧w'.cell? ⟨gb408,1,none⟩=some (.int .i64 (wrap64 (Int.tdiv a1 (wrap64 (-t407)))))) (ds:=[]) #[fF,fF,fF,fF,fF] (by kernel_rfl) rfl rfl ⟨(qi_ BK408.out 0).trans rfl,(qi_ BK408.out 1).trans rfl⟩ (fun hHeld=>?_)
   generalize w13.drew=w14 at BK406 BK408 HB hHeld ⊢
   refine take_ (i:=0) (N:=some 22) (v:=?_) (a':=?_) #[tT,fF,fF,fF,fF] rfl rfl (by kernel_rfl) (fun _ _ _ h=>h) (Or.inl ⟨by rfl,?_⟩) hHeld ?_ ?_
   rotate_left
   ·rintro w' ⟨s0,s1⟩
    go_simp
    with_reducible rfl
   rotate_left
   ·simp only [Act.put,List.setIfInBounds_toArray,List.set_cons_zero,List.set_cons_succ,i64_w,i32_w]
    rfl
   refine take_ (i:=1) (N:=some 23) (v:=?_) (a':=?_) #[tT,tT,fF,fF,fF] rfl rfl (by kernel_rfl) (fun _ _ _ h=>h) (Or.inl ⟨by rfl,?_⟩) hHeld ?_ ?_
   rotate_left
   ·rintro w' ⟨s0,s1⟩
    go_simp
    with_reducible rfl
   rotate_left
   ·simp only [Act.put,List.setIfInBounds_toArray,List.set_cons_zero,List.set_cons_succ,i64_w,i32_w]
    rfl
   refine one_ (i:=2) (N:=some 24) #[tT,tT,tT,fF,fF] rfl rfl (by kernel_rfl) (by decide) (fun K hK=>?_)
   refine goes_ Try.func206 (by kernel_rfl) rfl #[.agg #[.int .i64 (wrap64 (Int.tdiv a0 (wrap64 (-t407)))),.int .i64 (wrap64 (Int.tdiv a1 (wrap64 (-t407))))]] (by rfl) rfl rfl (by (try simp only [List.map_toArray,List.map_cons,List.map_nil]);first|done|rfl|(simp only [List.length_drop,List.length_take];rfl)) ?_
   with_reducible refine (qg1_.calls k (wrap64 (Int.tdiv a0 (wrap64 (-t407)))) (wrap64 (Int.tdiv a1 (wrap64 (-t407)))) t409 _ A6.out).mono ?_
   rintro e w15 ⟨rfl,hb⟩
   refine ⟨_,rfl,?_⟩
   have n0_:=aK (ql_ (g:=gb406) (o:=.cells #[.int .i64 0,.int .i64 0] 77 (0,0)) (by (with_reducible repeat (first|refine qe_ ?_ _|refine qg_ ?_|refine qd_ ?_ _));exact BK406.out) hb)
   have n1_:=aK (ql_ (g:=gb408) (o:=.cells #[.int .i64 (wrap64 (Int.tdiv a0 (wrap64 (-t407)))),.int .i64 (wrap64 (Int.tdiv a1 (wrap64 (-t407))))] 77 (0,0)) (by (with_reducible repeat (first|refine qe_ ?_ _|refine qg_ ?_|refine qd_ ?_ _));exact BK408.out) hb)
   have n2_:=aK (qm_ (by repeat (first|(with_reducible first|exact HB.out|apply qb_|apply qa_|apply qc_|refine qf_ ?_ GE406.out|refine qf_ ?_ GE408.out)|exact HB.out)) hb)
   clear BK406
   clear BK408
   clear HB
   have BK406:=n0_
   have BK408:=n1_
   have HB:=n2_
   clear n0_ n1_ n2_
   (try clear hb)
   (try clear hb2)
   (try clear hk)
   (try clear hi)
   refine hK.out _ _ ⟨(qi_ BK408.out 0).trans rfl,(qi_ BK408.out 1).trans rfl⟩ (fun hHeld=>?_)
   clear hK K
   refine norm_ (a':=?_) ?_ ?_
   rotate_left
   ·show Act.put _ (some 24) _=_
    simp only [Act.put,List.setIfInBounds_toArray,List.set_cons_zero,List.set_cons_succ,i64_w,i32_w]
    rfl
   refine one_ (i:=3) (N:=none) #[tT,tT,tT,tT,fF] rfl rfl (by kernel_rfl) (by decide) (fun K hK=>?_)
   have hs16:w15.cell? ⟨gb406,0,none⟩=some (.int .i64 0):=(qi_ BK406.out 0).trans rfl
   have hfs16:=qh_ BK406.out 0
   have hns16_1:=NB408_406.out
   have hms16_1:=NB406_408.out
   have hs17:w15.cell? ⟨gb406,1,none⟩=some (.int .i64 0):=(qi_ BK406.out 1).trans rfl
   have hfs17:=qh_ BK406.out 1
   have hns17_1:=NB408_406.out
   have hms17_1:=NB406_408.out
   refine skip_ (w1:=?_) (by rfl) rfl ?_ ?_
   rotate_left
   ·go_simp
    rfl
   refine hK.out _ _ ⟨((cell_far (p:=⟨gb406,_,none⟩) NB408_406.out _).trans (((cell_far (p:=⟨gb406,_,none⟩) NB408_406.out _).trans (hHeld.1)))),((cell_far (p:=⟨gb406,_,none⟩) NB408_406.out _).trans (((cell_far (p:=⟨gb406,_,none⟩) NB408_406.out _).trans (hHeld.2))))⟩ (fun hHeld=>?_)
   clear hK K
   refine pure_ (i:=4) (N:=some 5) (v:=?_) (a':=?_) #[tT,tT,tT,tT,tT] rfl rfl (by kernel_rfl) (fun _ _ _ h=>h) (Or.inl ⟨by rfl,?_⟩) ?_ ?_
   rotate_left
   ·intro w'
    go_simp
    with_reducible rfl
   rotate_left
   ·simp only [Act.put,List.setIfInBounds_toArray,List.set_cons_zero,List.set_cons_succ,i64_w,i32_w]
    rfl
   refine done_ (by kernel_rfl) ?_
   try go_wp2
   refine bodyPost_ret (results_ct rfl _ _ gb406 77 #[.int .i64 (wrap64 (Int.tdiv a0 (wrap64 (-t407)))),.int .i64 (wrap64 (Int.tdiv a1 (wrap64 (-t407))))] (0,0) _ rfl (by (with_reducible repeat (first|refine qe_ ?_ _|refine qg_ ?_|refine qd_ ?_ _));refine qy_ (cs:=#[.int .i64 (wrap64 (Int.tdiv a0 (wrap64 (-t407)))),.int .i64 0]) ?_ 1 _ rfl;(with_reducible repeat (first|refine qe_ ?_ _|refine qg_ ?_|refine qd_ ?_ _));refine qy_ (cs:=#[.int .i64 0,.int .i64 0]) ?_ 0 _ rfl;(with_reducible repeat (first|refine qe_ ?_ _|refine qg_ ?_|refine qd_ ?_ _));exact BK406.out) Try.underlying77 rfl (by kernel_rfl)) rfl ?_
   exact ⟨by first|rfl|(simp [qn_,qo_] <;> rfl)|(simp [*,qn_,qo_] <;> rfl),by repeat (first|(with_reducible first|exact HB.out|apply qb_|apply qa_|apply qc_|refine qf_ ?_ GE406.out|refine qf_ ?_ GE408.out)|exact HB.out)⟩
 ·rw [if_neg c4] at H
  have c4b0:decide (a1 < 0)=false:=decide_eq_false c4
  clear c4
  by_cases c18:t407=0
  ·rw [if_pos c18] at H
   exact absurd H (by simp)
  ·rw [if_neg c18] at H
   have c18b0:(t407 == 0)=false:=beq_eq_false_iff_ne.mpr c18
   have c18b1:(t407 != 0)=true:=bne_iff_ne.mpr c18
   replace H:=Option.bind_eq_some_iff.mp H
   obtain ⟨t411,A190,H⟩:=H
   replace H:(some (wrap64 (Int.tdiv a0 t407),wrap64 (Int.tdiv a1 t407),t411))=some (r1,r2,r3):=H
   have A19:=aK A190
   clear A190
   simp only [Option.some.injEq,Prod.mk.injEq] at H
   obtain ⟨rfl,rfl,rfl⟩:=H
   go_enter Try.func181,Try.ntmps181
   try go_wp2_with (first|((with_reducible refine qz_ (N:=4) rfl ?_);refine qv_ ?hg (N:=4) ?hd (cs:=#[.int .i64 0,.int .i64 0]) (t:=77) ?hr ?_;(case hd=>rfl);(case hg=>rfl);(case hr=>first|(go_simp;done)|(go_simp;rfl));intro gb406 hg w20 hbox hb;have n0_:=aK (qm_ (by repeat (first|(with_reducible first|exact HB.out|apply qb_|apply qa_|apply qc_)|exact HB.out)) hb);have n1_:=aK (hbox);have n2_:=aK ((by rw [hg];exact (qk_ (by repeat (first|(with_reducible first|exact HB.out|apply qb_|apply qa_|apply qc_)|exact HB.out))):w.heap.size≤gb406));have n3_:=aK ((by rw [hg];exact (qk_ (by repeat (first|(with_reducible first|exact HB.out|apply qb_|apply qa_|apply qc_)|exact HB.out))):w.heap.size≤gb406));clear HB;have HB:=n0_;have BK406:=n1_;have GW406:=n2_;have GE406:=n3_;clear n0_ n1_ n2_ n3_;clear hb hbox hg)|((with_reducible refine qt_ (f:=217) rfl ?_);refine goesL_ (some 10) rfl rfl Try.func217 (by kernel_rfl) rfl #[.int .i64 a0,.int .i64 a1] rfl (by (try simp only [List.map_toArray,List.map_cons,List.map_nil]);first|done|rfl|(simp only [List.length_drop,List.length_take];rfl)) ?_;(with_reducible refine (ql1_.calls k a0 a1 t407 _ A3.out).mono ?_);rintro e w21 ⟨rfl,hb⟩;refine ⟨_,rfl,?_⟩;have n0_:=aK (ql_ (g:=gb406) (o:=.cells #[.int .i64 0,.int .i64 0] 77 (0,0)) (by (with_reducible repeat (first|refine qe_ ?_ _|refine qg_ ?_|refine qd_ ?_ _));exact BK406.out) hb);have n1_:=aK (qm_ (by repeat (first|(with_reducible first|exact HB.out|apply qb_|apply qa_|apply qc_|refine qf_ ?_ GE406.out)|exact HB.out)) hb);clear BK406;clear HB;have BK406:=n0_;have HB:=n1_;clear n0_ n1_;(try clear hb);(try clear hb2);(try clear hk);(try clear hi)))
   have n0_:=aK (qg_ BK406.out)
   have n1_:=aK (qc_ HB.out)
   clear BK406
   clear HB
   have BK406:=n0_
   have HB:=n1_
   clear n0_ n1_
   refine start_ (n:=9) (S:=fun w'=>True) (ds:=[]) #[fF,fF,fF,fF,fF,fF,fF,fF,fF] (by kernel_rfl) rfl rfl trivial (fun hHeld=>?_);refine with_tabW qb2_.tab4 qb2_.bits4 (fun HT_ HW_=>?_)
   generalize w21.drew=w22 at BK406 HB hHeld ⊢
   refine pure_ (i:=0) (N:=some 15) (v:=?_) (a':=?_) #[tT,fF,fF,fF,fF,fF,fF,fF,fF] rfl rfl (any_of HT_.out (by kernel_rfl)) (fun _ _ _ h=>h) (Or.inl ⟨by rfl,?_⟩) ?_ ?_
   rotate_left
   ·intro w'
    go_simp
    with_reducible rfl
   rotate_left
   ·simp only [Act.put,List.setIfInBounds_toArray,List.set_cons_zero,List.set_cons_succ,i64_w,i32_w]
    rfl
   refine pure_ (i:=1) (N:=some 16) (v:=?_) (a':=?_) #[tT,tT,fF,fF,fF,fF,fF,fF,fF] rfl rfl (any_of HT_.out (by kernel_rfl)) (fun _ _ _ h=>h) (Or.inl ⟨by rfl,?_⟩) ?_ ?_
   rotate_left
   ·intro w'
    go_simp
    with_reducible rfl
   rotate_left
   ·simp only [Act.put,List.setIfInBounds_toArray,List.set_cons_zero,List.set_cons_succ,i64_w,i32_w]
    rfl
   refine pure_ (i:=2) (N:=some 17) (v:=?_) (a':=?_) #[tT,tT,tT,fF,fF,fF,fF,fF,fF] rfl rfl (any_of HT_.out (by kernel_rfl)) (fun _ _ _ h=>h) (Or.inl ⟨by rfl,?_⟩) ?_ ?_
   rotate_left
   ·intro w'
    go_simp
    with_reducible rfl
   rotate_left
   ·simp only [Act.put,List.setIfInBounds_toArray,List.set_cons_zero,List.set_cons_succ,i64_w,i32_w]
    rfl
   refine pure_ (i:=3) (N:=some 18) (v:=?_) (a':=?_) #[tT,tT,tT,tT,fF,fF,fF,fF,fF] rfl rfl (any_of HT_.out (by kernel_rfl)) (fun _ _ _ h=>h) (Or.inl ⟨by rfl,?_⟩) ?_ ?_
   rotate_left
   ·intro w'
    go_simp
    with_reducible rfl
   rotate_left
   ·simp only [Act.put,List.setIfInBounds_toArray,List.set_cons_zero,List.set_cons_succ,i64_w,i32_w]
    rfl
   refine pure_ (i:=4) (N:=some 19) (v:=?_) (a':=?_) #[tT,tT,tT,tT,tT,fF,fF,fF,fF] rfl rfl (any_of HT_.out (by kernel_rfl)) (fun _ _ _ h=>h) (Or.inl ⟨by rfl,?_⟩) ?_ ?_
   rotate_left
   ·intro w'
    go_simp
    with_reducible rfl
   rotate_left
   ·simp only [Act.put,List.setIfInBounds_toArray,List.set_cons_zero,List.set_cons_succ,i64_w,i32_w]
    rfl
   refine pure_ (i:=5) (N:=some 20) (v:=?_) (a':=?_) #[tT,tT,tT,tT,tT,tT,fF,fF,fF] rfl rfl (any_of HT_.out (by kernel_rfl)) (fun _ _ _ h=>h) (Or.inl ⟨by rfl,?_⟩) ?_ ?_
   rotate_left
   ·intro w'
    go_simp
    with_reducible rfl
   rotate_left
   ·simp only [Act.put,List.setIfInBounds_toArray,List.set_cons_zero,List.set_cons_succ,i64_w,i32_w]
    rfl
   refine pure_ (i:=6) (N:=some 21) (v:=?_) (a':=?_) #[tT,tT,tT,tT,tT,tT,tT,fF,fF] rfl rfl (any_of HT_.out (by kernel_rfl)) (fun _ _ _ h=>h) (Or.inl ⟨by rfl,?_⟩) ?_ ?_
   rotate_left
   ·intro w'
    go_simp
    with_reducible rfl
   rotate_left
   ·simp only [Act.put,List.setIfInBounds_toArray,List.set_cons_zero,List.set_cons_succ,i64_w,i32_w]
    rfl
   refine one_ (i:=7) (N:=some 7) #[tT,tT,tT,tT,tT,tT,tT,tT,fF] rfl rfl (one_of HT_.out (by kernel_rfl)) (by decide) (fun K hK=>?_)
   refine box_step ?hg (N:=7) ?hd (cs:=#[.int .i64 0,.int .i64 0]) (t:=77) ?hr ?_;(case hd=>rfl);(case hg=>rfl);(case hr=>first|(go_simp;done)|(go_simp;rfl))
   intro gb410 hg w23 hbox hb
   have n0_:=aK (ql_ (g:=gb406) (o:=.cells #[.int .i64 0,.int .i64 0] 77 (0,0)) (by (with_reducible repeat (first|refine qe_ ?_ _|refine qg_ ?_|refine qd_ ?_ _));exact BK406.out) hb)
   have n1_:=aK (qm_ (by repeat (first|(with_reducible first|exact HB.out|apply qb_|apply qa_|apply qc_|refine qf_ ?_ GE406.out)|exact HB.out)) hb)
   have n2_:=aK (hbox)
   have n3_:=aK ((by rw [hg];exact (qk_ (by repeat (first|(with_reducible first|exact HB.out|apply qb_|apply qa_|apply qc_|refine qf_ ?_ GE406.out)|exact HB.out))):w.heap.size≤gb410))
   have n4_:=aK ((by rw [hg];exact (qk_ (by repeat (first|(with_reducible first|exact HB.out|apply qb_|apply qa_|apply qc_|refine qf_ ?_ GE406.out)|exact HB.out))):w.heap.size≤gb410))
   have n5_:=aK ((by rw [hg];exact Nat.ne_of_lt (blk_lt (g:=gb406) (o:=.cells #[.int .i64 0,.int .i64 0] 77 (0,0)) (by (with_reducible repeat (first|refine qe_ ?_ _|refine qg_ ?_|refine qd_ ?_ _));exact BK406.out)):gb406 ≠ gb410))
   have n6_:=aK ((by rw [hg];exact Nat.ne_of_gt (blk_lt (g:=gb406) (o:=.cells #[.int .i64 0,.int .i64 0] 77 (0,0)) (by (with_reducible repeat (first|refine qe_ ?_ _|refine qg_ ?_|refine qd_ ?_ _));exact BK406.out)):gb410 ≠ gb406))
   clear BK406
   clear HB
   have BK406:=n0_
   have HB:=n1_
   have BK410:=n2_
   have GW410:=n3_
   have GE410:=n4_
   have NB406_410:=n5_
   have NB410_406:=n6_
   clear n0_ n1_ n2_ n3_ n4_ n5_ n6_
   clear hb hbox hg
   refine hK.out _ _ trivial (fun hHeld=>?_)
   clear hK K
   refine norm_ (a':=?_) ?_ ?_
   rotate_left
   ·show Act.put _ (some 7) _=_
    simp only [Act.put,List.setIfInBounds_toArray,List.set_cons_zero,List.set_cons_succ,i64_w,i32_w]
    rfl
   refine one_ (i:=8) (N:=none) #[tT,tT,tT,tT,tT,tT,tT,tT,tT] rfl rfl (one_of HT_.out (by kernel_rfl)) (by decide) (fun K hK=>?_)
   have hs24:w23.cell? ⟨gb410,0,none⟩=some (.int .i64 0):=(qi_ BK410.out 0).trans rfl
   have hfs24:=qh_ BK410.out 0
   have hns24_0:=NB406_410.out
   have hms24_0:=NB410_406.out
   have hs25:w23.cell? ⟨gb410,1,none⟩=some (.int .i64 0):=(qi_ BK410.out 1).trans rfl
   have hfs25:=qh_ BK410.out 1
   have hns25_0:=NB406_410.out
   have hms25_0:=NB410_406.out
   refine skip_ (w1:=?_) (by rfl) rfl ?_ ?_
   rotate_left
   ·go_simp
    rfl
   refine hK.out _ _ trivial (fun hHeld=>?_)
   clear hK K
   refine done_ (done_of HT_.out (by kernel_rfl)) ?_
   try go_wp2
   have n0_:Aside0 (((w23.setCell ⟨gb410,0,none⟩ (.int .i64 (wrap64 (Int.tdiv a0 t407)))).setCell ⟨gb410,1,none⟩ (.int .i64 (wrap64 (Int.tdiv a1 t407)))).heap[gb406]?=some (.cells #[.int .i64 0,.int .i64 0] 77 (0,0))):=⟨by (with_reducible repeat (first|refine qe_ ?_ _|refine qg_ ?_|refine qd_ ?_ _));refine qa1_ ?_ NB406_410.out _;(with_reducible repeat (first|refine qe_ ?_ _|refine qg_ ?_|refine qd_ ?_ _));refine qa1_ ?_ NB406_410.out _;(with_reducible repeat (first|refine qe_ ?_ _|refine qg_ ?_|refine qd_ ?_ _));exact BK406.out⟩
   have n1_:Aside0 (((w23.setCell ⟨gb410,0,none⟩ (.int .i64 (wrap64 (Int.tdiv a0 t407)))).setCell ⟨gb410,1,none⟩ (.int .i64 (wrap64 (Int.tdiv a1 t407)))).heap[gb410]?=some (.cells #[.int .i64 (wrap64 (Int.tdiv a0 t407)),.int .i64 (wrap64 (Int.tdiv a1 t407))] 77 (0,0))):=⟨by (with_reducible repeat (first|refine qe_ ?_ _|refine qg_ ?_|refine qd_ ?_ _));refine qy_ (cs:=#[.int .i64 (wrap64 (Int.tdiv a0 t407)),.int .i64 0]) ?_ 1 _ rfl;(with_reducible repeat (first|refine qe_ ?_ _|refine qg_ ?_|refine qd_ ?_ _));refine qy_ (cs:=#[.int .i64 0,.int .i64 0]) ?_ 0 _ rfl;(with_reducible repeat (first|refine qe_ ?_ _|refine qg_ ?_|refine qd_ ?_ _));exact BK410.out⟩
   have n2_:Aside0 (Below w.heap.size w ((w23.setCell ⟨gb410,0,none⟩ (.int .i64 (wrap64 (Int.tdiv a0 t407)))).setCell ⟨gb410,1,none⟩ (.int .i64 (wrap64 (Int.tdiv a1 t407))))):=⟨by repeat (first|(with_reducible first|exact HB.out|apply qb_|apply qa_|apply qc_|refine qf_ ?_ GE406.out|refine qf_ ?_ GE410.out)|exact HB.out)⟩
   (try clear BK406)
   (try clear BK410)
   (try clear HB)
   generalize ((w23.setCell ⟨gb410,0,none⟩ (.int .i64 (wrap64 (Int.tdiv a0 t407)))).setCell ⟨gb410,1,none⟩ (.int .i64 (wrap64 (Int.tdiv a1 t407))))=w26 at n0_ n1_ n2_ ⊢
   have BK406:=n0_
   have BK410:=n1_
   have HB:=n2_
   clear n0_ n1_ n2_
   have n0_:=aK (qg_ BK406.out)
   have n1_:=aK (qg_ BK410.out)
   have n2_:=aK (qc_ HB.out)
   clear BK406
   clear BK410
   clear HB
   have BK406:=n0_
   have BK410:=n1_
   have HB:=n2_
   clear n0_ n1_ n2_
   refine start_ (n:=5) (S:=fun w'=>w'.cell? ⟨gb410,0,none⟩=some (.int .i64 (wrap64 (Int.tdiv a0 t407)))∧w'.cell? ⟨gb410,1,none⟩=some (.int .i64 (wrap64 (Int.tdiv a1 t407)))) (ds:=[]) #[fF,fF,fF,fF,fF] (by kernel_rfl) rfl rfl ⟨(qi_ BK410.out 0).trans rfl,(qi_ BK410.out 1).trans rfl⟩ (fun hHeld=>?_)
   generalize w26.drew=w27 at BK406 BK410 HB hHeld ⊢
   refine take_ (i:=0) (N:=some 22) (v:=?_) (a':=?_) #[tT,fF,fF,fF,fF] rfl rfl (by kernel_rfl) (fun _ _ _ h=>h) (Or.inl ⟨by rfl,?_⟩) hHeld ?_ ?_
   rotate_left
   ·rintro w' ⟨s0,s1⟩
    go_simp
    with_reducible rfl
   rotate_left
   ·simp only [Act.put,List.setIfInBounds_toArray,List.set_cons_zero,List.set_cons_succ,i64_w,i32_w]
    rfl
   refine take_ (i:=1) (N:=some 23) (v:=?_) (a':=?_) #[tT,tT,fF,fF,fF] rfl rfl (by kernel_rfl) (fun _ _ _ h=>h) (Or.inl ⟨by rfl,?_⟩) hHeld ?_ ?_
   rotate_left
   ·rintro w' ⟨s0,s1⟩
    go_simp
    with_reducible rfl
   rotate_left
   ·simp only [Act.put,List.setIfInBounds_toArray,List.set_cons_zero,List.set_cons_succ,i64_w,i32_w]
    rfl
   refine one_ (i:=2) (N:=some 24) #[tT,tT,tT,fF,fF] rfl rfl (by kernel_rfl) (by decide) (fun K hK=>?_)
   refine goes_ Try.func206 (by kernel_rfl) rfl #[.agg #[.int .i64 (wrap64 (Int.tdiv a0 t407)),.int .i64 (wrap64 (Int.tdiv a1 t407))]] (by rfl) rfl rfl (by (try simp only [List.map_toArray,List.map_cons,List.map_nil]);first|done|rfl|(simp only [List.length_drop,List.length_take];rfl)) ?_
   with_reducible refine (qg1_.calls k (wrap64 (Int.tdiv a0 t407)) (wrap64 (Int.tdiv a1 t407)) t411 _ A19.out).mono ?_
   rintro e w28 ⟨rfl,hb⟩
   refine ⟨_,rfl,?_⟩
   have n0_:=aK (ql_ (g:=gb406) (o:=.cells #[.int .i64 0,.int .i64 0] 77 (0,0)) (by (with_reducible repeat (first|refine qe_ ?_ _|refine qg_ ?_|refine qd_ ?_ _));exact BK406.out) hb)
   have n1_:=aK (ql_ (g:=gb410) (o:=.cells #[.int .i64 (wrap64 (Int.tdiv a0 t407)),.int .i64 (wrap64 (Int.tdiv a1 t407))] 77 (0,0)) (by (with_reducible repeat (first|refine qe_ ?_ _|refine qg_ ?_|refine qd_ ?_ _));exact BK410.out) hb)
   have n2_:=aK (qm_ (by repeat (first|(with_reducible first|exact HB.out|apply qb_|apply qa_|apply qc_|refine qf_ ?_ GE406.out|refine qf_ ?_ GE410.out)|exact HB.out)) hb)
   clear BK406
   clear BK410
   clear HB
   have BK406:=n0_
   have BK410:=n1_
   have HB:=n2_
   clear n0_ n1_ n2_
   (try clear hb)
   (try clear hb2)
   (try clear hk)
   (try clear hi)
   refine hK.out _ _ ⟨(qi_ BK410.out 0).trans rfl,(qi_ BK410.out 1).trans rfl⟩ (fun hHeld=>?_)
   clear hK K
   refine norm_ (a':=?_) ?_ ?_
   rotate_left
   ·show Act.put _ (some 24) _=_
    simp only [Act.put,List.setIfInBounds_toArray,List.set_cons_zero,List.set_cons_succ,i64_w,i32_w]
    rfl
   refine one_ (i:=3) (N:=none) #[tT,tT,tT,tT,fF] rfl rfl (by kernel_rfl) (by decide) (fun K hK=>?_)
   have hs29:w28.cell? ⟨gb406,0,none⟩=some (.int .i64 0):=(qi_ BK406.out 0).trans rfl
   have hfs29:=qh_ BK406.out 0
   have hns29_1:=NB410_406.out
   have hms29_1:=NB406_410.out
   have hs30:w28.cell? ⟨gb406,1,none⟩=some (.int .i64 0):=(qi_ BK406.out 1).trans rfl
   have hfs30:=qh_ BK406.out 1
   have hns30_1:=NB410_406.out
   have hms30_1:=NB406_410.out
   refine skip_ (w1:=?_) (by rfl) rfl ?_ ?_
   rotate_left
   ·go_simp
    rfl
   refine hK.out _ _ ⟨((cell_far (p:=⟨gb406,_,none⟩) NB410_406.out _).trans (((cell_far (p:=⟨gb406,_,none⟩) NB410_406.out _).trans (hHeld.1)))),((cell_far (p:=⟨gb406,_,none⟩) NB410_406.out _).trans (((cell_far (p:=⟨gb406,_,none⟩) NB410_406.out _).trans (hHeld.2))))⟩ (fun hHeld=>?_)
   clear hK K
   refine pure_ (i:=4) (N:=some 5) (v:=?_) (a':=?_) #[tT,tT,tT,tT,tT] rfl rfl (by kernel_rfl) (fun _ _ _ h=>h) (Or.inl ⟨by rfl,?_⟩) ?_ ?_
   rotate_left
   ·intro w'
    go_simp
    with_reducible rfl
   rotate_left
   ·simp only [Act.put,List.setIfInBounds_toArray,List.set_cons_zero,List.set_cons_succ,i64_w,i32_w]
    rfl
   refine done_ (by kernel_rfl) ?_
   try go_wp2
   refine bodyPost_ret (results_ct rfl _ _ gb406 77 #[.int .i64 (wrap64 (Int.tdiv a0 t407)),.int .i64 (wrap64 (Int.tdiv a1 t407))] (0,0) _ rfl (by (with_reducible repeat (first|refine qe_ ?_ _|refine qg_ ?_|refine qd_ ?_ _));refine qy_ (cs:=#[.int .i64 (wrap64 (Int.tdiv a0 t407)),.int .i64 0]) ?_ 1 _ rfl;(with_reducible repeat (first|refine qe_ ?_ _|refine qg_ ?_|refine qd_ ?_ _));refine qy_ (cs:=#[.int .i64 0,.int .i64 0]) ?_ 0 _ rfl;(with_reducible repeat (first|refine qe_ ?_ _|refine qg_ ?_|refine qd_ ?_ _));exact BK406.out) Try.underlying77 rfl (by kernel_rfl)) rfl ?_
   exact ⟨by first|rfl|(simp [qn_,qo_] <;> rfl)|(simp [*,qn_,qo_] <;> rfl),by repeat (first|(with_reducible first|exact HB.out|apply qb_|apply qa_|apply qc_|refine qf_ ?_ GE406.out|refine qf_ ?_ GE410.out)|exact HB.out)⟩
end Go.Proofs.Ytaiefdhenikiiaa.Base
namespace Go.Proofs.Ytaiefdhenikiiaa.Base
open Go.RowKit Go.Proofs.YtaiefdhenikiiaaW.PrintWords Go.Proofs.YtaiefdhenikiiaaW.PrintLast Go.Proofs.YtaiefdhenikiiaaW.PrintMore
attribute [local go_sem] max2_int qv1_ max_two min_two max_three min_three max_four min_four Go.Proofs.YtaiefdhenikiiaaZ.qe1_   -- for this text's walks alone
set_option linter.unusedVariables false
set_option linter.unusedSimpArgs false
def qm2_.f (k:Nat) (a0_0:Int) (a0_1:Int) (a1_0:Int) (a1_1:Int):Option (Int × Int × Bool):=(qb2_.f k (wrap64 ((wrap64 (a0_0 * a1_1))+(wrap64 (a1_0 * a0_1)))) (wrap64 (a0_1 * a1_1))).bind fun bt415=>(some (bt415.1,bt415.2.1,bt415.2.2))
theorem qm2_.mono:∀ a0 a1 a2 a3 k,LeO (qm2_.f k a0 a1 a2 a3) (qm2_.f (k+1) a0 a1 a2 a3):=by
 intro a0 a1 a2 a3 k
 unfold qm2_.f
 repeat' first
   | (with_reducible exact qb2_.mono _ _ _)
   | (with_reducible exact LeO.refl _)
   | (with_reducible exact LeO.none _)
   | (with_reducible refine LeO.ite ?_ ?_)
   | (with_reducible refine LeO.bind ?_ (fun _=>?_))
   | exact qb2_.mono _ _ _
   | exact LeO.none _
   | refine LeO.ite ?_ ?_
   | refine LeO.bind ?_ (fun _=>?_)
set_option maxHeartbeats 8000000 in
set_option maxRecDepth 100000 in
theorem qm2_.calls (k:Nat) (a0_0:Int) (a0_1:Int) (a1_0:Int) (a1_1:Int) (r1:Int) (r2:Int) (r3:Bool) (w:World) (h:qm2_.f k a0_0 a0_1 a1_0 a1_1=some (r1,r2,r3)) :
  Calls Try.prog 183 #[.agg #[.int .i64 a0_0,.int .i64 a0_1],.agg #[.int .i64 a1_0,.int .i64 a1_1]] w fun e w'=>e=.returned (.tuple #[.agg #[.int .i64 r1,.int .i64 r2],.bool r3])∧Below w.heap.size w w':=by
 have hu77:=Try.underlying77
 have HB:=aK (Below.refl w.heap.size w)
 have H:((qb2_.f k (wrap64 ((wrap64 (a0_0 * a1_1))+(wrap64 (a1_0 * a0_1)))) (wrap64 (a0_1 * a1_1))).bind fun bt415=>(some (bt415.1,bt415.2.1,bt415.2.2)))=some (r1,r2,r3):=h
 clear h
 replace H:=Option.bind_eq_some_iff.mp H
 obtain ⟨⟨t415,t416,t417⟩,A30,H⟩:=H
 replace H:(some (t415,t416,t417))=some (r1,r2,r3):=H
 have A3:=aK A30
 clear A30
 simp only [Option.some.injEq,Prod.mk.injEq] at H
 obtain ⟨rfl,rfl,rfl⟩:=H
 go_enter Try.func183,Try.ntmps183
 go_wp2_with (first|((with_reducible refine qz_ (N:=2) rfl ?_);refine qv_ ?hg (N:=2) ?hd (cs:=#[.int .i64 a0_0,.int .i64 a0_1]) (t:=77) ?hr ?_;(case hd=>rfl);(case hg=>rfl);(case hr=>first|(go_simp;done)|(go_simp;rfl));intro gb412 hg w4 hbox hb;have n0_:=aK (qm_ (by repeat (first|(with_reducible first|exact HB.out|apply qb_|apply qa_|apply qc_)|exact HB.out)) hb);have n1_:=aK (hbox);have n2_:=aK ((by rw [hg];exact (qk_ (by repeat (first|(with_reducible first|exact HB.out|apply qb_|apply qa_|apply qc_)|exact HB.out))):w.heap.size≤gb412));have n3_:=aK ((by rw [hg];exact (qk_ (by repeat (first|(with_reducible first|exact HB.out|apply qb_|apply qa_|apply qc_)|exact HB.out))):w.heap.size≤gb412));clear HB;have HB:=n0_;have BK412:=n1_;have GW412:=n2_;have GE412:=n3_;clear n0_ n1_ n2_ n3_;clear hb hbox hg)|((with_reducible refine qz_ (N:=3) rfl ?_);refine qv_ ?hg (N:=3) ?hd (cs:=#[.int .i64 a1_0,.int .i64 a1_1]) (t:=77) ?hr ?_;(case hd=>rfl);(case hg=>rfl);(case hr=>first|(go_simp;done)|(go_simp;rfl));intro gb413 hg w5 hbox hb;have n0_:=aK (ql_ (g:=gb412) (o:=.cells #[.int .i64 a0_0,.int .i64 a0_1] 77 (0,0)) (by (with_reducible repeat (first|refine qe_ ?_ _|refine qg_ ?_|refine qd_ ?_ _));exact BK412.out) hb);have n1_:=aK (qm_ (by repeat (first|(with_reducible first|exact HB.out|apply qb_|apply qa_|apply qc_|refine qf_ ?_ GE412.out)|exact HB.out)) hb);have n2_:=aK (hbox);have n3_:=aK ((by rw [hg];exact (qk_ (by repeat (first|(with_reducible first|exact HB.out|apply qb_|apply qa_|apply qc_|refine qf_ ?_ GE412.out)|exact HB.out))):w.heap.size≤gb413));have n4_:=aK ((by rw [hg];exact (qk_ (by repeat (first|(with_reducible first|exact HB.out|apply qb_|apply qa_|apply qc_|refine qf_ ?_ GE412.out)|exact HB.out))):w.heap.size≤gb413));have n5_:=aK ((by rw [hg];exact Nat.ne_of_lt (blk_lt (g:=gb412) (o:=.cells #[.int .i64 a0_0,.int .i64 a0_1] 77 (0,0)) (by (with_reducible repeat (first|refine qe_ ?_ _|refine qg_ ?_|refine qd_ ?_ _));exact BK412.out)):gb412 ≠ gb413));have n6_:=aK ((by rw [hg];exact Nat.ne_of_gt (blk_lt (g:=gb412) (o:=.cells #[.int .i64 a0_0,.int .i64 a0_1] 77 (0,0)) (by (with_reducible repeat (first|refine qe_ ?_ _|refine qg_ ?_|refine qd_ ?_ _));exact BK412.out)):gb413 ≠ gb412));clear BK412;clear HB;have BK412:=n0_;have HB:=n1_;have BK413:=n2_;have GW413:=n3_;have GE413:=n4_;have NB412_413:=n5_;have NB413_412:=n6_;clear n0_ n1_ n2_ n3_ n4_ n5_ n6_;clear hb hbox hg)|((with_reducible refine qz_ (N:=4) rfl ?_);refine qv_ ?hg (N:=4) ?hd (cs:=#[.int .i64 0,.int .i64 0]) (t:=77) ?hr ?_;(case hd=>rfl);(case hg=>rfl);(case hr=>first|(go_simp;done)|(go_simp;rfl));intro gb414 hg w6 hbox hb;have n0_:=aK (ql_ (g:=gb412) (o:=.cells #[.int .i64 a0_0,.int .i64 a0_1] 77 (0,0)) (by (with_reducible repeat (first|refine qe_ ?_ _|refine qg_ ?_|refine qd_ ?_ _));exact BK412.out) hb);have n1_:=aK (ql_ (g:=gb413) (o:=.cells #[.int .i64 a1_0,.int .i64 a1_1] 77 (0,0)) (by (with_reducible repeat (first|refine qe_ ?_ _|refine qg_ ?_|refine qd_ ?_ _));exact BK413.out) hb);have n2_:=aK (qm_ (by repeat (first|(with_reducible first|exact HB.out|apply qb_|apply qa_|apply qc_|refine qf_ ?_ GE412.out|refine qf_ ?_ GE413.out)|exact HB.out)) hb);have n3_:=aK (hbox);have n4_:=aK ((by rw [hg];exact (qk_ (by repeat (first|(with_reducible first|exact HB.out|apply qb_|apply qa_|apply qc_|refine qf_ ?_ GE412.out|refine qf_ ?_ GE413.out)|exact HB.out))):w.heap.size≤gb414));have n5_:=aK ((by rw [hg];exact (qk_ (by repeat (first|(with_reducible first|exact HB.out|apply qb_|apply qa_|apply qc_|refine qf_ ?_ GE412.out|refine qf_ ?_ GE413.out)|exact HB.out))):w.heap.size≤gb414));have n6_:=aK ((by rw [hg];exact Nat.ne_of_lt (blk_lt (g:=gb412) (o:=.cells #[.int .i64 a0_0,.int .i64 a0_1] 77 (0,0)) (by (with_reducible repeat (first|refine qe_ ?_ _|refine qg_ ?_|refine qd_ ?_ _));exact BK412.out)):gb412 ≠ gb414));have n7_:=aK ((by rw [hg];exact Nat.ne_of_gt (blk_lt (g:=gb412) (o:=.cells #[.int .i64 a0_0,.int .i64 a0_1] 77 (0,0)) (by (with_reducible repeat (first|refine qe_ ?_ _|refine qg_ ?_|refine qd_ ?_ _));exact BK412.out)):gb414 ≠ gb412));have n8_:=aK ((by rw [hg];exact Nat.ne_of_lt (blk_lt (g:=gb413) (o:=.cells #[.int .i64 a1_0,.int .i64 a1_1] 77 (0,0)) (by (with_reducible repeat (first|refine qe_ ?_ _|refine qg_ ?_|refine qd_ ?_ _));exact BK413.out)):gb413 ≠ gb414));have n9_:=aK ((by rw [hg];exact Nat.ne_of_gt (blk_lt (g:=gb413) (o:=.cells #[.int .i64 a1_0,.int .i64 a1_1] 77 (0,0)) (by (with_reducible repeat (first|refine qe_ ?_ _|refine qg_ ?_|refine qd_ ?_ _));exact BK413.out)):gb414 ≠ gb413));clear BK412;clear BK413;clear HB;have BK412:=n0_;have BK413:=n1_;have HB:=n2_;have BK414:=n3_;have GW414:=n4_;have GE414:=n5_;have NB412_414:=n6_;have NB414_412:=n7_;have NB413_414:=n8_;have NB414_413:=n9_;clear n0_ n1_ n2_ n3_ n4_ n5_ n6_ n7_ n8_ n9_;clear hb hbox hg;have hnb7:=NB412_413.out;have hnc7:=NB413_412.out;have hnb8:=NB412_414.out;have hnc8:=NB414_412.out;have hcz9_0:w6.cell? ⟨gb412,0,none⟩=some (.int .i64 a0_0):=(qi_ BK412.out 0).trans rfl;have hcz9_1:w6.cell? ⟨gb412,1,none⟩=some (.int .i64 a0_1):=(qi_ BK412.out 1).trans rfl;have hfz9_0:=qh_ BK412.out 0;have hfz9_1:=qh_ BK412.out 1;have hnb10:=NB413_414.out;have hnc10:=NB414_413.out;have hcz11_0:w6.cell? ⟨gb413,0,none⟩=some (.int .i64 a1_0):=(qi_ BK413.out 0).trans rfl;have hcz11_1:w6.cell? ⟨gb413,1,none⟩=some (.int .i64 a1_1):=(qi_ BK413.out 1).trans rfl;have hfz11_0:=qh_ BK413.out 0;have hfz11_1:=qh_ BK413.out 1)|((with_reducible refine qt_ (f:=181) rfl ?_);refine goesL_ (some 22) rfl rfl Try.func181 (by kernel_rfl) rfl #[.int .i64 (wrap64 ((wrap64 (a0_0 * a1_1))+(wrap64 (a1_0 * a0_1)))),.int .i64 (wrap64 (a0_1 * a1_1))] rfl (by (try simp only [List.map_toArray,List.map_cons,List.map_nil]);first|done|rfl|(simp only [List.length_drop,List.length_take];rfl)) ?_;(with_reducible refine (qb2_.calls k (wrap64 ((wrap64 (a0_0 * a1_1))+(wrap64 (a1_0 * a0_1)))) (wrap64 (a0_1 * a1_1)) t415 t416 t417 _ A3.out).mono ?_);rintro e w12 ⟨rfl,hb⟩;refine ⟨_,rfl,?_⟩;have n0_:=aK (ql_ (g:=gb412) (o:=.cells #[.int .i64 a0_0,.int .i64 a0_1] 77 (0,0)) (by (with_reducible repeat (first|refine qe_ ?_ _|refine qg_ ?_|refine qd_ ?_ _));exact BK412.out) hb);have n1_:=aK (ql_ (g:=gb413) (o:=.cells #[.int .i64 a1_0,.int .i64 a1_1] 77 (0,0)) (by (with_reducible repeat (first|refine qe_ ?_ _|refine qg_ ?_|refine qd_ ?_ _));exact BK413.out) hb);have n2_:=aK (ql_ (g:=gb414) (o:=.cells #[.int .i64 0,.int .i64 0] 77 (0,0)) (by (with_reducible repeat (first|refine qe_ ?_ _|refine qg_ ?_|refine qd_ ?_ _));exact BK414.out) hb);have n3_:=aK (qm_ (by repeat (first|(with_reducible first|exact HB.out|apply qb_|apply qa_|apply qc_|refine qf_ ?_ GE412.out|refine qf_ ?_ GE413.out|refine qf_ ?_ GE414.out)|exact HB.out)) hb);clear BK412;clear BK413;clear BK414;clear HB;have BK412:=n0_;have BK413:=n1_;have BK414:=n2_;have HB:=n3_;clear n0_ n1_ n2_ n3_;(try clear hb);(try clear hb2);(try clear hk);(try clear hi);have hcz13_0:w12.cell? ⟨gb414,0,none⟩=some (.int .i64 0):=(qi_ BK414.out 0).trans rfl;have hcz13_1:w12.cell? ⟨gb414,1,none⟩=some (.int .i64 0):=(qi_ BK414.out 1).trans rfl;have hfz13_0:=qh_ BK414.out 0;have hfz13_1:=qh_ BK414.out 1))
 refine bodyPost_ret (results_ct rfl _ _ gb414 77 #[.int .i64 t415,.int .i64 t416] (0,0) _ rfl (by (with_reducible repeat (first|refine qe_ ?_ _|refine qg_ ?_|refine qd_ ?_ _));refine qy_ (cs:=#[.int .i64 t415,.int .i64 0]) ?_ 1 _ rfl;(with_reducible repeat (first|refine qe_ ?_ _|refine qg_ ?_|refine qd_ ?_ _));refine qy_ (cs:=#[.int .i64 0,.int .i64 0]) ?_ 0 _ rfl;(with_reducible repeat (first|refine qe_ ?_ _|refine qg_ ?_|refine qd_ ?_ _));exact BK414.out) Try.underlying77 rfl (by kernel_rfl)) rfl ?_
 exact ⟨by first|rfl|(simp [qn_,qo_] <;> rfl)|(simp [*,qn_,qo_] <;> rfl),by repeat (first|(with_reducible first|exact HB.out|apply qb_|apply qa_|apply qc_|refine qf_ ?_ GE412.out|refine qf_ ?_ GE413.out|refine qf_ ?_ GE414.out)|exact HB.out)⟩
end Go.Proofs.Ytaiefdhenikiiaa.Base
namespace Go.Proofs.Ytaiefdhenikiiaa.Base
open Go.RowKit Go.Proofs.YtaiefdhenikiiaaW.PrintWords Go.Proofs.YtaiefdhenikiiaaW.PrintLast Go.Proofs.YtaiefdhenikiiaaW.PrintMore
attribute [local go_sem] max2_int qv1_ max_two min_two max_three min_three max_four min_four Go.Proofs.YtaiefdhenikiiaaZ.qe1_   -- for this text's walks alone
set_option linter.unusedVariables false
set_option linter.unusedSimpArgs false
def qc2_.f (a0:Int) (a1:Int) (a2:Int):Option (Bool):=if a0 ≥ a1 then (some (decide (a0≤a2))) else (some false)
set_option maxHeartbeats 8000000 in
set_option maxRecDepth 100000 in
theorem qc2_.calls (a0:Int) (a1:Int) (a2:Int) (r:Bool) (w:World) (h:qc2_.f a0 a1 a2=some r) :
  Calls Try.prog 107 #[.int .i64 a0,.int .i64 a1,.int .i64 a2] w fun e w'=>e=.returned (.bool r)∧Drawn0 w w':=by
 have H:(if a0 ≥ a1 then (some (decide (a0≤a2))) else (some false))=some r:=h
 clear h
 by_cases c4:a0 ≥ a1
 ·rw [if_pos c4] at H
  have c4b0:decide (a1≤a0)=true:=decide_eq_true c4
  clear c4
  obtain rfl:=Option.some.inj H
  go_enter Try.func107,Try.ntmps107
  go_wp2
  go_ret
  exact ⟨by first|rfl|(simp;done)|(simp [*];done)|(simp [Go.Proofs.YtaiefdhenikiiaaZ.bne_nil];done),by repeat (first|exact Drawn0.refl _|apply Drawn0.step)⟩
 ·rw [if_neg c4] at H
  have c4b0:decide (a1≤a0)=false:=decide_eq_false c4
  clear c4
  obtain rfl:=Option.some.inj H
  go_enter Try.func107,Try.ntmps107
  go_wp2
  go_ret
  exact ⟨by first|rfl|(simp;done)|(simp [*];done)|(simp [Go.Proofs.YtaiefdhenikiiaaZ.bne_nil];done),by repeat (first|exact Drawn0.refl _|apply Drawn0.step)⟩
end Go.Proofs.Ytaiefdhenikiiaa.Base
namespace Go.Proofs.Ytaiefdhenikiiaa.Base
open Go.RowKit Go.Proofs.YtaiefdhenikiiaaW.PrintWords Go.Proofs.YtaiefdhenikiiaaW.PrintLast Go.Proofs.YtaiefdhenikiiaaW.PrintMore
attribute [local go_sem] max2_int qv1_ max_two min_two max_three min_three max_four min_four Go.Proofs.YtaiefdhenikiiaaZ.qe1_   -- for this text's walks alone
set_option linter.unusedVariables false
set_option linter.unusedSimpArgs false
def qm1_.l0:Nat→Int→Int→Option (Int)
 | 0,_,_=>none
 | k+1,x0,x1=>if x1=0 then (some (mx x0 (wrap64 (-x0)))) else (qm1_.l0 k x1 (Int.tmod x0 x1))
def qm1_.f (k:Nat) (a0:Int) (a1:Int):Option (Int):=qm1_.l0 k a0 a1
theorem qm1_.mono_l:∀ k,(∀ y0 y1,LeO (qm1_.l0 k y0 y1) (qm1_.l0 (k+1) y0 y1))
 | 0=>fun _ _ r h=>by simp [qm1_.l0] at h
 | k+1=>by
  have ih0:=qm1_.mono_l k
  ·intro y0 y1
   unfold qm1_.l0
   repeat' first
   | (with_reducible exact ih0 _ _)
   | (with_reducible exact LeO.refl _)
   | (with_reducible exact LeO.none _)
   | (with_reducible refine LeO.ite ?_ ?_)
   | (with_reducible refine LeO.bind ?_ (fun _=>?_))
   | exact ih0 _ _
   | exact LeO.none _
   | refine LeO.ite ?_ ?_
   | refine LeO.bind ?_ (fun _=>?_)
theorem qm1_.mono:∀ a0 a1 k,LeO (qm1_.f k a0 a1) (qm1_.f (k+1) a0 a1):=by
 intro a0 a1 k
 have ih0:=qm1_.mono_l k
 unfold qm1_.f
 repeat' first
   | (with_reducible exact ih0 _ _)
   | (with_reducible exact LeO.refl _)
   | (with_reducible exact LeO.none _)
   | (with_reducible refine LeO.ite ?_ ?_)
   | (with_reducible refine LeO.bind ?_ (fun _=>?_))
   | exact ih0 _ _
   | exact LeO.none _
   | refine LeO.ite ?_ ?_
   | refine LeO.bind ?_ (fun _=>?_)
set_option maxHeartbeats 8000000 in
set_option maxRecDepth 100000 in
theorem qm1_.calls (k:Nat) (a0:Int) (a1:Int) (r:Int) (w:World) (h:qm1_.f k a0 a1=some r) :
  Calls Try.prog 205 #[.int .i64 a0,.int .i64 a1] w fun e w'=>e=.returned (.int .i64 r)∧Below w.heap.size w w':=by
 have HB:=aK (Below.refl w.heap.size w)
 have H:(qm1_.l0 k a0 a1)=some r:=h
 clear h
 have H':=aK H
 clear H
 go_enter Try.func205,Try.ntmps205
 go_wp2
 go_loopg [0,1] k (fun kq v0 v1 w'=>∃ (x0_1:Int) (x1_1:Int),v0=.int .i64 x0_1∧v1=.int .i64 x1_1∧Aside0 (qm1_.l0 kq x0_1 x1_1=some r)∧Aside0 (kq≤k)∧Aside0 (Below w.heap.size w w'))
 case atStart=>exact ⟨(a0),(a1),(by first|rfl|(simp;done)|(simp [*];done)),(by first|rfl|(simp;done)|(simp [*];done)),H',⟨Nat.le_refl _⟩,⟨by repeat (first|(with_reducible first|exact HB.out|apply qb_|apply qa_|apply qc_)|exact HB.out)⟩⟩
 case round =>
  clear H'
  try clear c2
  try clear p2
  obtain ⟨x0_1,x1_1,rfl,rfl,HA,HK1,HB⟩:=hrel
  cases gk with
  | zero=>exact absurd HA.out (by simp [qm1_.l0])
  | succ k1 =>
   have H:=HA.out
   clear HA
   simp only [qm1_.l0] at H
   by_cases c3:x1_1=0
   ·rw [if_pos c3] at H
    have c3b0:(x1_1 == 0)=true:=beq_iff_eq.mpr c3
    have c3b1:(x1_1 != 0)=false:=bne_eq_false_iff_eq.mpr c3
    clear c3
    obtain ⟨ji4,hji4⟩:∃ j_:Int,(mx x0_1 (wrap64 (-x0_1)))=j_:=⟨_,rfl⟩
    replace H:(some ji4)=some r:=by first|(rw [hji4] at H;exact H)|(simp only [hji4] at H ⊢;exact H)
    have hji4_:(if x0_1 < (wrap64 (-x0_1)) then (wrap64 (-x0_1)) else x0_1)=ji4:=hji4
    obtain rfl:=Option.some.inj H
    go_wp2
    go_ret
    exact ⟨by first|rfl|(simp [qn_,qo_] <;> rfl)|(simp only [← hji4];first|rfl|(simp [qn_,qo_] <;> rfl))|(simp [*,qn_,qo_] <;> rfl),by repeat (first|(with_reducible first|exact HB.out|apply qb_|apply qa_|apply qc_)|exact HB.out)⟩
   ·rw [if_neg c3] at H
    have c3b0:(x1_1 == 0)=false:=beq_eq_false_iff_ne.mpr c3
    have c3b1:(x1_1 != 0)=true:=bne_iff_ne.mpr c3
    have H':=aK H
    clear H
    go_wp2
    go_roundg k1
    case measure=>have:=HK1.out;omega
    case rel=>exact ⟨(x1_1),(Int.tmod x0_1 x1_1),(by first|rfl|(simp;done)|(simp [*];done)),(by first|rfl|(simp;done)|(simp [*];done)),H',⟨by have:=HK1.out;omega⟩,⟨by repeat (first|(with_reducible first|exact HB.out|apply qb_|apply qa_|apply qc_)|exact HB.out)⟩⟩
end Go.Proofs.Ytaiefdhenikiiaa.Base
namespace Go.Proofs.Ytaiefdhenikiiaa.Base
open Go.RowKit Go.Proofs.YtaiefdhenikiiaaW.PrintWords Go.Proofs.YtaiefdhenikiiaaW.PrintLast Go.Proofs.YtaiefdhenikiiaaW.PrintMore
attribute [local go_sem] max2_int qv1_ max_two min_two max_three min_three max_four min_four Go.Proofs.YtaiefdhenikiiaaZ.qe1_   -- for this text's walks alone
set_option linter.unusedVariables false
set_option linter.unusedSimpArgs false
def qc1_.f (k:Nat) (a0_0:Int) (a0_1:Int):Option (Bool):=(qc2_.f a0_1 1 1000000000).bind fun t108=>(if t108=true then ((qc2_.f a0_0 (-1000000000) 1000000000).bind fun t109=>(if t109=true then ((qm1_.f k a0_0 a0_1).bind fun t110=>(some (t110 == 1))) else (some false))) else (some false))
theorem qc1_.mono:∀ a0 a1 k,LeO (qc1_.f k a0 a1) (qc1_.f (k+1) a0 a1):=by
 intro a0 a1 k
 unfold qc1_.f
 repeat' first
   | (with_reducible exact qm1_.mono _ _ _)
   | (with_reducible exact LeO.refl _)
   | (with_reducible exact LeO.none _)
   | (with_reducible refine LeO.ite ?_ ?_)
   | (with_reducible refine LeO.bind ?_ (fun _=>?_))
   | exact qm1_.mono _ _ _
   | exact LeO.none _
   | refine LeO.ite ?_ ?_
   | refine LeO.bind ?_ (fun _=>?_)
set_option maxHeartbeats 8000000 in
set_option maxRecDepth 100000 in
theorem qc1_.calls (k:Nat) (a0_0:Int) (a0_1:Int) (r:Bool) (w:World) (h:qc1_.f k a0_0 a0_1=some r) :
  Calls Try.prog 151 #[.agg #[.int .i64 a0_0,.int .i64 a0_1]] w fun e w'=>e=.returned (.bool r)∧Below w.heap.size w w':=by
 have hu77:=Try.underlying77
 have HB:=aK (Below.refl w.heap.size w)
 have H:((qc2_.f a0_1 1 1000000000).bind fun t108=>(if t108=true then ((qc2_.f a0_0 (-1000000000) 1000000000).bind fun t109=>(if t109=true then ((qm1_.f k a0_0 a0_1).bind fun t110=>(some (t110 == 1))) else (some false))) else (some false)))=some r:=h
 clear h
 replace H:=Option.bind_eq_some_iff.mp H
 obtain ⟨t108,A20,H⟩:=H
 replace H:(if t108=true then ((qc2_.f a0_0 (-1000000000) 1000000000).bind fun t109=>(if t109=true then ((qm1_.f k a0_0 a0_1).bind fun t110=>(some (t110 == 1))) else (some false))) else (some false))=some r:=H
 have A2:=aK A20
 clear A20
 by_cases c3:t108=true
 ·subst c3
  have H1:((qc2_.f a0_0 (-1000000000) 1000000000).bind fun t109=>(if t109=true then ((qm1_.f k a0_0 a0_1).bind fun t110=>(some (t110 == 1))) else (some false)))=some r:=by rw [if_pos rfl] at H;exact H
  clear H
  have H:=H1
  clear H1
  replace H:=Option.bind_eq_some_iff.mp H
  obtain ⟨t109,A40,H⟩:=H
  replace H:(if t109=true then ((qm1_.f k a0_0 a0_1).bind fun t110=>(some (t110 == 1))) else (some false))=some r:=H
  have A4:=aK A40
  clear A40
  by_cases c5:t109=true
  ·subst c5
   have H1:((qm1_.f k a0_0 a0_1).bind fun t110=>(some (t110 == 1)))=some r:=by rw [if_pos rfl] at H;exact H
   clear H
   have H:=H1
   clear H1
   replace H:=Option.bind_eq_some_iff.mp H
   obtain ⟨t110,A60,H⟩:=H
   replace H:(some (t110 == 1))=some r:=H
   have A6:=aK A60
   clear A60
   obtain rfl:=Option.some.inj H
   go_enter Try.func151,Try.ntmps151
   go_wp2_with (first|((with_reducible refine qz_ (N:=1) rfl ?_);refine qv_ ?hg (N:=1) ?hd (cs:=#[.int .i64 a0_0,.int .i64 a0_1]) (t:=77) ?hr ?_;(case hd=>rfl);(case hg=>rfl);(case hr=>first|(go_simp;done)|(go_simp;rfl));intro gb107 hg w7 hbox hb;have n0_:=aK (qm_ (by repeat (first|(with_reducible first|exact HB.out|apply qb_|apply qa_|apply qc_)|exact HB.out)) hb);have n1_:=aK (hbox);have n2_:=aK ((by rw [hg];exact (qk_ (by repeat (first|(with_reducible first|exact HB.out|apply qb_|apply qa_|apply qc_)|exact HB.out))):w.heap.size≤gb107));have n3_:=aK ((by rw [hg];exact (qk_ (by repeat (first|(with_reducible first|exact HB.out|apply qb_|apply qa_|apply qc_)|exact HB.out))):w.heap.size≤gb107));clear HB;have HB:=n0_;have BK107:=n1_;have GW107:=n2_;have GE107:=n3_;clear n0_ n1_ n2_ n3_;clear hb hbox hg;have hcz8_0:w7.cell? ⟨gb107,0,none⟩=some (.int .i64 a0_0):=(qi_ BK107.out 0).trans rfl;have hcz8_1:w7.cell? ⟨gb107,1,none⟩=some (.int .i64 a0_1):=(qi_ BK107.out 1).trans rfl;have hfz8_0:=qh_ BK107.out 0;have hfz8_1:=qh_ BK107.out 1)|((with_reducible refine qt_ (f:=107) rfl ?_);refine goesL_ (some 5) rfl rfl Try.func107 (by kernel_rfl) rfl #[.int .i64 a0_1,.int .i64 1,.int .i64 1000000000] rfl (by (try simp only [List.map_toArray,List.map_cons,List.map_nil]);first|done|rfl|(simp only [List.length_drop,List.length_take];rfl)) ?_;(with_reducible refine (qc2_.calls a0_1 1 1000000000 true _ A2.out).mono ?_);rintro e w' ⟨rfl,⟨nd,rfl⟩⟩;refine ⟨_,rfl,?_⟩)|(go_at_call 107;(with_reducible refine (qc2_.calls a0_0 (-1000000000) 1000000000 true _ A4.out).mono ?_);rintro e w' ⟨rfl,⟨nd,rfl⟩⟩)|(go_at_call 205;(with_reducible refine (qm1_.calls k a0_0 a0_1 t110 _ A6.out).mono ?_);rintro e w9 ⟨rfl,hb⟩;have n0_:=aK (ql_ (g:=gb107) (o:=.cells #[.int .i64 a0_0,.int .i64 a0_1] 77 (0,0)) (by (with_reducible repeat (first|refine qe_ ?_ _|refine qg_ ?_|refine qd_ ?_ _));exact BK107.out) hb);have n1_:=aK (qm_ (by repeat (first|(with_reducible first|exact HB.out|apply qb_|apply qa_|apply qc_|refine qf_ ?_ GE107.out)|exact HB.out)) hb);clear BK107;clear HB;have BK107:=n0_;have HB:=n1_;clear n0_ n1_;(try clear hb);(try clear hb2);(try clear hk);(try clear hi)))
   go_ret
   exact ⟨by first|rfl|(simp [qn_,qo_] <;> rfl)|(simp [*,qn_,qo_] <;> rfl),by repeat (first|(with_reducible first|exact HB.out|apply qb_|apply qa_|apply qc_|refine qf_ ?_ GE107.out)|exact HB.out)⟩
  ·replace c5:=Bool.eq_false_iff.mpr c5
   subst c5
   have H1:(some false)=some r:=by rw [if_neg (show ¬ (false=true) by decide)] at H;exact H
   clear H
   have H:=H1
   clear H1
   obtain rfl:=Option.some.inj H
   go_enter Try.func151,Try.ntmps151
   go_wp2_with (first|((with_reducible refine qz_ (N:=1) rfl ?_);refine qv_ ?hg (N:=1) ?hd (cs:=#[.int .i64 a0_0,.int .i64 a0_1]) (t:=77) ?hr ?_;(case hd=>rfl);(case hg=>rfl);(case hr=>first|(go_simp;done)|(go_simp;rfl));intro gb107 hg w10 hbox hb;have n0_:=aK (qm_ (by repeat (first|(with_reducible first|exact HB.out|apply qb_|apply qa_|apply qc_)|exact HB.out)) hb);have n1_:=aK (hbox);have n2_:=aK ((by rw [hg];exact (qk_ (by repeat (first|(with_reducible first|exact HB.out|apply qb_|apply qa_|apply qc_)|exact HB.out))):w.heap.size≤gb107));have n3_:=aK ((by rw [hg];exact (qk_ (by repeat (first|(with_reducible first|exact HB.out|apply qb_|apply qa_|apply qc_)|exact HB.out))):w.heap.size≤gb107));clear HB;have HB:=n0_;have BK107:=n1_;have GW107:=n2_;have GE107:=n3_;clear n0_ n1_ n2_ n3_;clear hb hbox hg;have hcz11_0:w10.cell? ⟨gb107,0,none⟩=some (.int .i64 a0_0):=(qi_ BK107.out 0).trans rfl;have hcz11_1:w10.cell? ⟨gb107,1,none⟩=some (.int .i64 a0_1):=(qi_ BK107.out 1).trans rfl;have hfz11_0:=qh_ BK107.out 0;have hfz11_1:=qh_ BK107.out 1)|((with_reducible refine qt_ (f:=107) rfl ?_);refine goesL_ (some 5) rfl rfl Try.func107 (by kernel_rfl) rfl #[.int .i64 a0_1,.int .i64 1,.int .i64 1000000000] rfl (by (try simp only [List.map_toArray,List.map_cons,List.map_nil]);first|done|rfl|(simp only [List.length_drop,List.length_take];rfl)) ?_;(with_reducible refine (qc2_.calls a0_1 1 1000000000 true _ A2.out).mono ?_);rintro e w' ⟨rfl,⟨nd,rfl⟩⟩;refine ⟨_,rfl,?_⟩)|(go_at_call 107;(with_reducible refine (qc2_.calls a0_0 (-1000000000) 1000000000 false _ A4.out).mono ?_);rintro e w' ⟨rfl,⟨nd,rfl⟩⟩))
   go_ret
   exact ⟨by first|rfl|(simp [qn_,qo_] <;> rfl)|(simp [*,qn_,qo_] <;> rfl),by repeat (first|(with_reducible first|exact HB.out|apply qb_|apply qa_|apply qc_|refine qf_ ?_ GE107.out)|exact HB.out)⟩
 ·replace c3:=Bool.eq_false_iff.mpr c3
  subst c3
  have H1:(some false)=some r:=by rw [if_neg (show ¬ (false=true) by decide)] at H;exact H
  clear H
  have H:=H1
  clear H1
  obtain rfl:=Option.some.inj H
  go_enter Try.func151,Try.ntmps151
  go_wp2_with (first|((with_reducible refine qz_ (N:=1) rfl ?_);refine qv_ ?hg (N:=1) ?hd (cs:=#[.int .i64 a0_0,.int .i64 a0_1]) (t:=77) ?hr ?_;(case hd=>rfl);(case hg=>rfl);(case hr=>first|(go_simp;done)|(go_simp;rfl));intro gb107 hg w12 hbox hb;have n0_:=aK (qm_ (by repeat (first|(with_reducible first|exact HB.out|apply qb_|apply qa_|apply qc_)|exact HB.out)) hb);have n1_:=aK (hbox);have n2_:=aK ((by rw [hg];exact (qk_ (by repeat (first|(with_reducible first|exact HB.out|apply qb_|apply qa_|apply qc_)|exact HB.out))):w.heap.size≤gb107));have n3_:=aK ((by rw [hg];exact (qk_ (by repeat (first|(with_reducible first|exact HB.out|apply qb_|apply qa_|apply qc_)|exact HB.out))):w.heap.size≤gb107));clear HB;have HB:=n0_;have BK107:=n1_;have GW107:=n2_;have GE107:=n3_;clear n0_ n1_ n2_ n3_;clear hb hbox hg;have hcz13_0:w12.cell? ⟨gb107,0,none⟩=some (.int .i64 a0_0):=(qi_ BK107.out 0).trans rfl;have hcz13_1:w12.cell? ⟨gb107,1,none⟩=some (.int .i64 a0_1):=(qi_ BK107.out 1).trans rfl;have hfz13_0:=qh_ BK107.out 0;have hfz13_1:=qh_ BK107.out 1)|((with_reducible refine qt_ (f:=107) rfl ?_);refine goesL_ (some 5) rfl rfl Try.func107 (by kernel_rfl) rfl #[.int .i64 a0_1,.int .i64 1,.int .i64 1000000000] rfl (by (try simp only [List.map_toArray,List.map_cons,List.map_nil]);first|done|rfl|(simp only [List.length_drop,List.length_take];rfl)) ?_;(with_reducible refine (qc2_.calls a0_1 1 1000000000 false _ A2.out).mono ?_);rintro e w' ⟨rfl,⟨nd,rfl⟩⟩;refine ⟨_,rfl,?_⟩))
  go_ret
  exact ⟨by first|rfl|(simp [qn_,qo_] <;> rfl)|(simp [*,qn_,qo_] <;> rfl),by repeat (first|(with_reducible first|exact HB.out|apply qb_|apply qa_|apply qc_|refine qf_ ?_ GE107.out)|exact HB.out)⟩
end Go.Proofs.Ytaiefdhenikiiaa.Base
namespace Go.Proofs.Ytaiefdhenikiiaa.Base
open Go.RowKit Go.Proofs.YtaiefdhenikiiaaW.PrintWords Go.Proofs.YtaiefdhenikiiaaW.PrintLast Go.Proofs.YtaiefdhenikiiaaW.PrintMore
attribute [local go_sem] max2_int qv1_ max_two min_two max_three min_three max_four min_four Go.Proofs.YtaiefdhenikiiaaZ.qe1_   -- for this text's walks alone
set_option linter.unusedVariables false
set_option linter.unusedSimpArgs false
def qx1_.f (k:Nat) (a0:Int) (a1:Int):Option (Int × Int × Bool):=if a1=0 then (some (0,0,false)) else ((qm1_.f k a0 a1).bind fun t268=>(if a1 < 0 then (if (wrap64 (-t268))=0 then (none) else ((qc1_.f k (wrap64 (Int.tdiv a0 (wrap64 (-t268)))) (wrap64 (Int.tdiv a1 (wrap64 (-t268))))).bind fun t270=>(if t270=true then (some (wrap64 (Int.tdiv a0 (wrap64 (-t268))),wrap64 (Int.tdiv a1 (wrap64 (-t268))),true)) else (some (0,0,false))))) else (if t268=0 then (none) else ((qc1_.f k (wrap64 (Int.tdiv a0 t268)) (wrap64 (Int.tdiv a1 t268))).bind fun t272=>(if t272=true then (some (wrap64 (Int.tdiv a0 t268),wrap64 (Int.tdiv a1 t268),true)) else (some (0,0,false)))))))
theorem qx1_.mono:∀ a0 a1 k,LeO (qx1_.f k a0 a1) (qx1_.f (k+1) a0 a1):=by
 intro a0 a1 k
 unfold qx1_.f
 repeat' first
   | (with_reducible exact qm1_.mono _ _ _)
   | (with_reducible exact qc1_.mono _ _ _)
   | (with_reducible exact LeO.refl _)
   | (with_reducible exact LeO.none _)
   | (with_reducible refine LeO.ite ?_ ?_)
   | (with_reducible refine LeO.bind ?_ (fun _=>?_))
   | exact qm1_.mono _ _ _
   | exact qc1_.mono _ _ _
   | exact LeO.none _
   | refine LeO.ite ?_ ?_
   | refine LeO.bind ?_ (fun _=>?_)
def qx1_.T6:Bool × List (List Nat × List Nat):=(true,[([],[]),([],[]),([0,1],[0,1]),([],[]),([],[]),([3,4],[3,4]),([2,5],[2,5]),([],[]),([7,6,0,1,2,3,4,5,6,7],[6,7])])
def qx1_.B6:List Nat:=[0,0,3,0,0,24,63,0,255]
theorem qx1_.tab6:rtab .any (opsOf Try.f177 6)=qx1_.T6:=by kernel_rfl
theorem qx1_.bits6:waitsOk qx1_.T6.2 qx1_.B6=true:=by kernel_rfl
set_option maxHeartbeats 8000000 in
set_option maxRecDepth 100000 in
theorem qx1_.calls (k:Nat) (a0:Int) (a1:Int) (r1:Int) (r2:Int) (r3:Bool) (w:World) (h:qx1_.f k a0 a1=some (r1,r2,r3)) :
  Calls Try.prog 177 #[.int .i64 a0,.int .i64 a1] w fun e w'=>e=.returned (.tuple #[.agg #[.int .i64 r1,.int .i64 r2],.bool r3])∧Below w.heap.size w w':=by
 have hu77:=Try.underlying77
 have HB:=aK (Below.refl w.heap.size w)
 have H:(if a1=0 then (some (0,0,false)) else ((qm1_.f k a0 a1).bind fun t268=>(if a1 < 0 then (if (wrap64 (-t268))=0 then (none) else ((qc1_.f k (wrap64 (Int.tdiv a0 (wrap64 (-t268)))) (wrap64 (Int.tdiv a1 (wrap64 (-t268))))).bind fun t270=>(if t270=true then (some (wrap64 (Int.tdiv a0 (wrap64 (-t268))),wrap64 (Int.tdiv a1 (wrap64 (-t268))),true)) else (some (0,0,false))))) else (if t268=0 then (none) else ((qc1_.f k (wrap64 (Int.tdiv a0 t268)) (wrap64 (Int.tdiv a1 t268))).bind fun t272=>(if t272=true then (some (wrap64 (Int.tdiv a0 t268),wrap64 (Int.tdiv a1 t268),true)) else (some (0,0,false))))))))=some (r1,r2,r3):=h
 clear h
 by_cases c3:a1=0
 ·rw [if_pos c3] at H
  have c3b0:(a1 == 0)=true:=beq_iff_eq.mpr c3
  have c3b1:(a1 != 0)=false:=bne_eq_false_iff_eq.mpr c3
  clear c3
  simp only [Option.some.injEq,Prod.mk.injEq] at H
  obtain ⟨rfl,rfl,rfl⟩:=H
  go_enter Try.func177,Try.ntmps177
  go_wp2_with (first|((with_reducible refine qz_ (N:=4) rfl ?_);refine qv_ ?hg (N:=4) ?hd (cs:=#[.int .i64 0,.int .i64 0]) (t:=77) ?hr ?_;(case hd=>rfl);(case hg=>rfl);(case hr=>first|(go_simp;done)|(go_simp;rfl));intro gb267 hg w4 hbox hb;have n0_:=aK (qm_ (by repeat (first|(with_reducible first|exact HB.out|apply qb_|apply qa_|apply qc_)|exact HB.out)) hb);have n1_:=aK (hbox);have n2_:=aK ((by rw [hg];exact (qk_ (by repeat (first|(with_reducible first|exact HB.out|apply qb_|apply qa_|apply qc_)|exact HB.out))):w.heap.size≤gb267));have n3_:=aK ((by rw [hg];exact (qk_ (by repeat (first|(with_reducible first|exact HB.out|apply qb_|apply qa_|apply qc_)|exact HB.out))):w.heap.size≤gb267));clear HB;have HB:=n0_;have BK267:=n1_;have GW267:=n2_;have GE267:=n3_;clear n0_ n1_ n2_ n3_;clear hb hbox hg;have hcz5_0:w4.cell? ⟨gb267,0,none⟩=some (.int .i64 0):=(qi_ BK267.out 0).trans rfl;have hcz5_1:w4.cell? ⟨gb267,1,none⟩=some (.int .i64 0):=(qi_ BK267.out 1).trans rfl;have hfz5_0:=qh_ BK267.out 0;have hfz5_1:=qh_ BK267.out 1))
  refine bodyPost_ret (results_ct rfl _ _ gb267 77 #[.int .i64 0,.int .i64 0] (0,0) _ rfl (by (with_reducible repeat (first|refine qe_ ?_ _|refine qg_ ?_|refine qd_ ?_ _));refine qy_ (cs:=#[.int .i64 0,.int .i64 0]) ?_ 1 _ rfl;(with_reducible repeat (first|refine qe_ ?_ _|refine qg_ ?_|refine qd_ ?_ _));refine qy_ (cs:=#[.int .i64 0,.int .i64 0]) ?_ 0 _ rfl;(with_reducible repeat (first|refine qe_ ?_ _|refine qg_ ?_|refine qd_ ?_ _));exact BK267.out) Try.underlying77 rfl (by kernel_rfl)) rfl ?_
  exact ⟨by first|rfl|(simp [qn_,qo_] <;> rfl)|(simp [*,qn_,qo_] <;> rfl),by repeat (first|(with_reducible first|exact HB.out|apply qb_|apply qa_|apply qc_|refine qf_ ?_ GE267.out)|exact HB.out)⟩
 ·rw [if_neg c3] at H
  have c3b0:(a1 == 0)=false:=beq_eq_false_iff_ne.mpr c3
  have c3b1:(a1 != 0)=true:=bne_iff_ne.mpr c3
  replace H:=Option.bind_eq_some_iff.mp H
  obtain ⟨t268,A60,H⟩:=H
  replace H:(if a1 < 0 then (if (wrap64 (-t268))=0 then (none) else ((qc1_.f k (wrap64 (Int.tdiv a0 (wrap64 (-t268)))) (wrap64 (Int.tdiv a1 (wrap64 (-t268))))).bind fun t270=>(if t270=true then (some (wrap64 (Int.tdiv a0 (wrap64 (-t268))),wrap64 (Int.tdiv a1 (wrap64 (-t268))),true)) else (some (0,0,false))))) else (if t268=0 then (none) else ((qc1_.f k (wrap64 (Int.tdiv a0 t268)) (wrap64 (Int.tdiv a1 t268))).bind fun t272=>(if t272=true then (some (wrap64 (Int.tdiv a0 t268),wrap64 (Int.tdiv a1 t268),true)) else (some (0,0,false))))))=some (r1,r2,r3):=H
  have A6:=aK A60
  clear A60
  by_cases c7:a1 < 0
  ·rw [if_pos c7] at H
   have c7b0:decide (a1 < 0)=true:=decide_eq_true c7
   clear c7
   by_cases c8:(wrap64 (-t268))=0
   ·rw [if_pos c8] at H
    exact absurd H (by simp)
   ·rw [if_neg c8] at H
    have c8b0:((wrap64 (-t268)) == 0)=false:=beq_eq_false_iff_ne.mpr c8
    have c8b1:((wrap64 (-t268)) != 0)=true:=bne_iff_ne.mpr c8
    replace H:=Option.bind_eq_some_iff.mp H
    obtain ⟨t270,A90,H⟩:=H
    replace H:(if t270=true then (some (wrap64 (Int.tdiv a0 (wrap64 (-t268))),wrap64 (Int.tdiv a1 (wrap64 (-t268))),true)) else (some (0,0,false)))=some (r1,r2,r3):=H
    have A9:=aK A90
    clear A90
    by_cases c10:t270=true
    ·subst c10
     have H1:(some (wrap64 (Int.tdiv a0 (wrap64 (-t268))),wrap64 (Int.tdiv a1 (wrap64 (-t268))),true))=some (r1,r2,r3):=by rw [if_pos rfl] at H;exact H
     clear H
     have H:=H1
     clear H1
     simp only [Option.some.injEq,Prod.mk.injEq] at H
     obtain ⟨rfl,rfl,rfl⟩:=H
     go_enter Try.func177,Try.ntmps177
     try go_wp2_with (first|((with_reducible refine qz_ (N:=4) rfl ?_);refine qv_ ?hg (N:=4) ?hd (cs:=#[.int .i64 0,.int .i64 0]) (t:=77) ?hr ?_;(case hd=>rfl);(case hg=>rfl);(case hr=>first|(go_simp;done)|(go_simp;rfl));intro gb267 hg w11 hbox hb;have n0_:=aK (qm_ (by repeat (first|(with_reducible first|exact HB.out|apply qb_|apply qa_|apply qc_)|exact HB.out)) hb);have n1_:=aK (hbox);have n2_:=aK ((by rw [hg];exact (qk_ (by repeat (first|(with_reducible first|exact HB.out|apply qb_|apply qa_|apply qc_)|exact HB.out))):w.heap.size≤gb267));have n3_:=aK ((by rw [hg];exact (qk_ (by repeat (first|(with_reducible first|exact HB.out|apply qb_|apply qa_|apply qc_)|exact HB.out))):w.heap.size≤gb267));clear HB;have HB:=n0_;have BK267:=n1_;have GW267:=n2_;have GE267:=n3_;clear n0_ n1_ n2_ n3_;clear hb hbox hg)|((with_reducible refine qt_ (f:=205) rfl ?_);refine goesL_ (some 13) rfl rfl Try.func205 (by kernel_rfl) rfl #[.int .i64 a0,.int .i64 a1] rfl (by (try simp only [List.map_toArray,List.map_cons,List.map_nil]);first|done|rfl|(simp only [List.length_drop,List.length_take];rfl)) ?_;(with_reducible refine (qm1_.calls k a0 a1 t268 _ A6.out).mono ?_);rintro e w12 ⟨rfl,hb⟩;refine ⟨_,rfl,?_⟩;have n0_:=aK (ql_ (g:=gb267) (o:=.cells #[.int .i64 0,.int .i64 0] 77 (0,0)) (by (with_reducible repeat (first|refine qe_ ?_ _|refine qg_ ?_|refine qd_ ?_ _));exact BK267.out) hb);have n1_:=aK (qm_ (by repeat (first|(with_reducible first|exact HB.out|apply qb_|apply qa_|apply qc_|refine qf_ ?_ GE267.out)|exact HB.out)) hb);clear BK267;clear HB;have BK267:=n0_;have HB:=n1_;clear n0_ n1_;(try clear hb);(try clear hb2);(try clear hk);(try clear hi)))
     have n0_:=aK (qg_ BK267.out)
     have n1_:=aK (qc_ HB.out)
     clear BK267
     clear HB
     have BK267:=n0_
     have HB:=n1_
     clear n0_ n1_
     refine start_ (n:=9) (S:=fun w'=>True) (ds:=[]) #[fF,fF,fF,fF,fF,fF,fF,fF,fF] (by kernel_rfl) rfl rfl trivial (fun hHeld=>?_);refine with_tabW qx1_.tab6 qx1_.bits6 (fun HT_ HW_=>?_)
     generalize w12.drew=w13 at BK267 HB hHeld ⊢
     refine pure_ (i:=0) (N:=some 18) (v:=?_) (a':=?_) #[tT,fF,fF,fF,fF,fF,fF,fF,fF] rfl rfl (any_of HT_.out (by kernel_rfl)) (fun _ _ _ h=>h) (Or.inl ⟨by rfl,?_⟩) ?_ ?_
     rotate_left
     ·intro w'
      go_simp
      with_reducible rfl
     rotate_left
     ·simp only [Act.put,List.setIfInBounds_toArray,List.set_cons_zero,List.set_cons_succ,i64_w,i32_w]
      rfl
     refine pure_ (i:=1) (N:=some 19) (v:=?_) (a':=?_) #[tT,tT,fF,fF,fF,fF,fF,fF,fF] rfl rfl (any_of HT_.out (by kernel_rfl)) (fun _ _ _ h=>h) (Or.inl ⟨by rfl,?_⟩) ?_ ?_
     rotate_left
     ·intro w'
      go_simp
      with_reducible rfl
     rotate_left
     ·simp only [Act.put,List.setIfInBounds_toArray,List.set_cons_zero,List.set_cons_succ,i64_w,i32_w]
      rfl
     refine pure_ (i:=2) (N:=some 20) (v:=?_) (a':=?_) #[tT,tT,tT,fF,fF,fF,fF,fF,fF] rfl rfl (any_of HT_.out (by kernel_rfl)) (fun _ _ _ h=>h) (Or.inl ⟨by rfl,?_⟩) ?_ ?_
     rotate_left
     ·intro w'
      go_simp
      with_reducible rfl
     rotate_left
     ·simp only [Act.put,List.setIfInBounds_toArray,List.set_cons_zero,List.set_cons_succ,i64_w,i32_w]
      rfl
     refine pure_ (i:=3) (N:=some 21) (v:=?_) (a':=?_) #[tT,tT,tT,tT,fF,fF,fF,fF,fF] rfl rfl (any_of HT_.out (by kernel_rfl)) (fun _ _ _ h=>h) (Or.inl ⟨by rfl,?_⟩) ?_ ?_
     rotate_left
     ·intro w'
      go_simp
      with_reducible rfl
     rotate_left
     ·simp only [Act.put,List.setIfInBounds_toArray,List.set_cons_zero,List.set_cons_succ,i64_w,i32_w]
      rfl
     refine pure_ (i:=4) (N:=some 22) (v:=?_) (a':=?_) #[tT,tT,tT,tT,tT,fF,fF,fF,fF] rfl rfl (any_of HT_.out (by kernel_rfl)) (fun _ _ _ h=>h) (Or.inl ⟨by rfl,?_⟩) ?_ ?_
     rotate_left
     ·intro w'
      go_simp
      with_reducible rfl
     rotate_left
     ·simp only [Act.put,List.setIfInBounds_toArray,List.set_cons_zero,List.set_cons_succ,i64_w,i32_w]
      rfl
     refine pure_ (i:=5) (N:=some 23) (v:=?_) (a':=?_) #[tT,tT,tT,tT,tT,tT,fF,fF,fF] rfl rfl (any_of HT_.out (by kernel_rfl)) (fun _ _ _ h=>h) (Or.inl ⟨by rfl,?_⟩) ?_ ?_
     rotate_left
     ·intro w'
      go_simp
      with_reducible rfl
     rotate_left
     ·simp only [Act.put,List.setIfInBounds_toArray,List.set_cons_zero,List.set_cons_succ,i64_w,i32_w]
      rfl
     refine pure_ (i:=6) (N:=some 24) (v:=?_) (a':=?_) #[tT,tT,tT,tT,tT,tT,tT,fF,fF] rfl rfl (any_of HT_.out (by kernel_rfl)) (fun _ _ _ h=>h) (Or.inl ⟨by rfl,?_⟩) ?_ ?_
     rotate_left
     ·intro w'
      go_simp
      with_reducible rfl
     rotate_left
     ·simp only [Act.put,List.setIfInBounds_toArray,List.set_cons_zero,List.set_cons_succ,i64_w,i32_w]
      rfl
     refine one_ (i:=7) (N:=some 7) #[tT,tT,tT,tT,tT,tT,tT,tT,fF] rfl rfl (one_of HT_.out (by kernel_rfl)) (by decide) (fun K hK=>?_)
     refine box_step ?hg (N:=7) ?hd (cs:=#[.int .i64 0,.int .i64 0]) (t:=77) ?hr ?_;(case hd=>rfl);(case hg=>rfl);(case hr=>first|(go_simp;done)|(go_simp;rfl))
     intro gb269 hg w14 hbox hb
     have n0_:=aK (ql_ (g:=gb267) (o:=.cells #[.int .i64 0,.int .i64 0] 77 (0,0)) (by (with_reducible repeat (first|refine qe_ ?_ _|refine qg_ ?_|refine qd_ ?_ _));exact BK267.out) hb)
     have n1_:=aK (qm_ (by repeat (first|(with_reducible first|exact HB.out|apply qb_|apply qa_|apply qc_|refine qf_ ?_ GE267.out)|exact HB.out)) hb)
     have n2_:=aK (hbox)
     have n3_:=aK ((by rw [hg];exact (qk_ (by repeat (first|(with_reducible first|exact HB.out|apply qb_|apply qa_|apply qc_|refine qf_ ?_ GE267.out)|exact HB.out))):w.heap.size≤gb269))
     have n4_:=aK ((by rw [hg];exact (qk_ (by repeat (first|(with_reducible first|exact HB.out|apply qb_|apply qa_|apply qc_|refine qf_ ?_ GE267.out)|exact HB.out))):w.heap.size≤gb269))
     have n5_:=aK ((by rw [hg];exact Nat.ne_of_lt (blk_lt (g:=gb267) (o:=.cells #[.int .i64 0,.int .i64 0] 77 (0,0)) (by (with_reducible repeat (first|refine qe_ ?_ _|refine qg_ ?_|refine qd_ ?_ _));exact BK267.out)):gb267 ≠ gb269))
     have n6_:=aK ((by rw [hg];exact Nat.ne_of_gt (blk_lt (g:=gb267) (o:=.cells #[.int .i64 0,.int .i64 0] 77 (0,0)) (by (with_reducible repeat (first|refine qe_ ?_ _|refine qg_ ?_|refine qd_ ?_ _));exact BK267.out)):gb269 ≠ gb267))
     clear BK267
     clear HB
     have BK267:=n0_
     have HB:=n1_
     have BK269:=n2_
     have GW269:=n3_
     have GE269:=n4_
     have NB267_269:=n5_
     have NB269_267:=n6_
     clear n0_ n1_ n2_ n3_ n4_ n5_ n6_
     clear hb hbox hg
     refine hK.out _ _ trivial (fun hHeld=>?_)
     clear hK K
     refine norm_ (a':=?_) ?_ ?_
     rotate_left
     ·show Act.put _ (some 7) _=_
      simp only [Act.put,List.setIfInBounds_toArray,List.set_cons_zero,List.set_cons_succ,i64_w,i32_w]
      rfl
     refine one_ (i:=8) (N:=none) #[tT,tT,tT,tT,tT,tT,tT,tT,tT] rfl rfl (one_of HT_.out (by kernel_rfl)) (by decide) (fun K hK=>?_)
     have hs15:w14.cell? ⟨gb269,0,none⟩=some (.int .i64 0):=(qi_ BK269.out 0).trans rfl
     have hfs15:=qh_ BK269.out 0
     have hns15_0:=NB267_269.out
     have hms15_0:=NB269_267.out
     have hs16:w14.cell? ⟨gb269,1,none⟩=some (.int .i64 0):=(qi_ BK269.out 1).trans rfl
     have hfs16:=qh_ BK269.out 1
     have hns16_0:=NB267_269.out
     have hms16_0:=NB269_267.out
     refine skip_ (w1:=?_) (by rfl) rfl ?_ ?_
     rotate_left
     ·go_simp
      rfl
     refine hK.out _ _ trivial (fun hHeld=>?_)
     clear hK K
     refine done_ (done_of HT_.out (by kernel_rfl)) ?_
     have hnb17:=NB269_267.out
     have hnc17:=NB267_269.out
     have hcz18_0:w14.cell? ⟨gb269,0,none⟩=some (.int .i64 0):=(qi_ BK269.out 0).trans rfl
     have hcz18_1:w14.cell? ⟨gb269,1,none⟩=some (.int .i64 0):=(qi_ BK269.out 1).trans rfl
     have hfz18_0:=qh_ BK269.out 0
     have hfz18_1:=qh_ BK269.out 1
     try go_wp2_with (first|((with_reducible refine qt_ (f:=151) rfl ?_);refine goesL_ (some 26) rfl rfl Try.func151 (by kernel_rfl) rfl #[.agg #[.int .i64 (wrap64 (Int.tdiv a0 (wrap64 (-t268)))),.int .i64 (wrap64 (Int.tdiv a1 (wrap64 (-t268))))]] rfl (by (try simp only [List.map_toArray,List.map_cons,List.map_nil]);first|done|rfl|(simp only [List.length_drop,List.length_take];rfl)) ?_;(with_reducible refine (qc1_.calls k (wrap64 (Int.tdiv a0 (wrap64 (-t268)))) (wrap64 (Int.tdiv a1 (wrap64 (-t268)))) true _ A9.out).mono ?_);rintro e w19 ⟨rfl,hb⟩;refine ⟨_,rfl,?_⟩;have n0_:=aK (ql_ (g:=gb267) (o:=.cells #[.int .i64 0,.int .i64 0] 77 (0,0)) (by (with_reducible repeat (first|refine qe_ ?_ _|refine qg_ ?_|refine qd_ ?_ _));refine qa1_ ?_ NB267_269.out _;(with_reducible repeat (first|refine qe_ ?_ _|refine qg_ ?_|refine qd_ ?_ _));refine qa1_ ?_ NB267_269.out _;(with_reducible repeat (first|refine qe_ ?_ _|refine qg_ ?_|refine qd_ ?_ _));exact BK267.out) hb);have n1_:=aK (ql_ (g:=gb269) (o:=.cells #[.int .i64 (wrap64 (Int.tdiv a0 (wrap64 (-t268)))),.int .i64 (wrap64 (Int.tdiv a1 (wrap64 (-t268))))] 77 (0,0)) (by (with_reducible repeat (first|refine qe_ ?_ _|refine qg_ ?_|refine qd_ ?_ _));refine qy_ (cs:=#[.int .i64 (wrap64 (Int.tdiv a0 (wrap64 (-t268)))),.int .i64 0]) ?_ 1 _ rfl;(with_reducible repeat (first|refine qe_ ?_ _|refine qg_ ?_|refine qd_ ?_ _));refine qy_ (cs:=#[.int .i64 0,.int .i64 0]) ?_ 0 _ rfl;(with_reducible repeat (first|refine qe_ ?_ _|refine qg_ ?_|refine qd_ ?_ _));exact BK269.out) hb);have n2_:=aK (qm_ (by repeat (first|(with_reducible first|exact HB.out|apply qb_|apply qa_|apply qc_|refine qf_ ?_ GE267.out|refine qf_ ?_ GE269.out)|exact HB.out)) hb);clear BK267;clear BK269;clear HB;have BK267:=n0_;have BK269:=n1_;have HB:=n2_;clear n0_ n1_ n2_;(try clear hb);(try clear hb2);(try clear hk);(try clear hi);have hcz20_0:w19.cell? ⟨gb269,0,none⟩=some (.int .i64 (wrap64 (Int.tdiv a0 (wrap64 (-t268))))):=(qi_ BK269.out 0).trans rfl;have hcz20_1:w19.cell? ⟨gb269,1,none⟩=some (.int .i64 (wrap64 (Int.tdiv a1 (wrap64 (-t268))))):=(qi_ BK269.out 1).trans rfl;have hfz20_0:=qh_ BK269.out 0;have hfz20_1:=qh_ BK269.out 1;have hcz21_0:w19.cell? ⟨gb267,0,none⟩=some (.int .i64 0):=(qi_ BK267.out 0).trans rfl;have hcz21_1:w19.cell? ⟨gb267,1,none⟩=some (.int .i64 0):=(qi_ BK267.out 1).trans rfl;have hfz21_0:=qh_ BK267.out 0;have hfz21_1:=qh_ BK267.out 1))
     refine bodyPost_ret (results_ct rfl _ _ gb267 77 #[.int .i64 (wrap64 (Int.tdiv a0 (wrap64 (-t268)))),.int .i64 (wrap64 (Int.tdiv a1 (wrap64 (-t268))))] (0,0) _ rfl (by (with_reducible repeat (first|refine qe_ ?_ _|refine qg_ ?_|refine qd_ ?_ _));refine qy_ (cs:=#[.int .i64 (wrap64 (Int.tdiv a0 (wrap64 (-t268)))),.int .i64 0]) ?_ 1 _ rfl;(with_reducible repeat (first|refine qe_ ?_ _|refine qg_ ?_|refine qd_ ?_ _));refine qy_ (cs:=#[.int .i64 0,.int .i64 0]) ?_ 0 _ rfl;(with_reducible repeat (first|refine qe_ ?_ _|refine qg_ ?_|refine qd_ ?_ _));exact BK267.out) Try.underlying77 rfl (by kernel_rfl)) rfl ?_
     exact ⟨by first|rfl|(simp [qn_,qo_] <;> rfl)|(simp [*,qn_,qo_] <;> rfl),by repeat (first|(with_reducible first|exact HB.out|apply qb_|apply qa_|apply qc_|refine qf_ ?_ GE267.out|refine qf_ ?_ GE269.out)|exact HB.out)⟩
    ·replace c10:=Bool.eq_false_iff.mpr c10
     subst c10
     have H1:(some (0,0,false))=some (r1,r2,r3):=by rw [if_neg (show ¬ (false=true) by decide)] at H;exact H
     clear H
     have H:=H1
     clear H1
     simp only [Option.some.injEq,Prod.mk.injEq] at H
     obtain ⟨rfl,rfl,rfl⟩:=H
     go_enter Try.func177,Try.ntmps177
     try go_wp2_with (first|((with_reducible refine qz_ (N:=4) rfl ?_);refine qv_ ?hg (N:=4) ?hd (cs:=#[.int .i64 0,.int .i64 0]) (t:=77) ?hr ?_;(case hd=>rfl);(case hg=>rfl);(case hr=>first|(go_simp;done)|(go_simp;rfl));intro gb267 hg w22 hbox hb;have n0_:=aK (qm_ (by repeat (first|(with_reducible first|exact HB.out|apply qb_|apply qa_|apply qc_)|exact HB.out)) hb);have n1_:=aK (hbox);have n2_:=aK ((by rw [hg];exact (qk_ (by repeat (first|(with_reducible first|exact HB.out|apply qb_|apply qa_|apply qc_)|exact HB.out))):w.heap.size≤gb267));have n3_:=aK ((by rw [hg];exact (qk_ (by repeat (first|(with_reducible first|exact HB.out|apply qb_|apply qa_|apply qc_)|exact HB.out))):w.heap.size≤gb267));clear HB;have HB:=n0_;have BK267:=n1_;have GW267:=n2_;have GE267:=n3_;clear n0_ n1_ n2_ n3_;clear hb hbox hg)|((with_reducible refine qt_ (f:=205) rfl ?_);refine goesL_ (some 13) rfl rfl Try.func205 (by kernel_rfl) rfl #[.int .i64 a0,.int .i64 a1] rfl (by (try simp only [List.map_toArray,List.map_cons,List.map_nil]);first|done|rfl|(simp only [List.length_drop,List.length_take];rfl)) ?_;(with_reducible refine (qm1_.calls k a0 a1 t268 _ A6.out).mono ?_);rintro e w23 ⟨rfl,hb⟩;refine ⟨_,rfl,?_⟩;have n0_:=aK (ql_ (g:=gb267) (o:=.cells #[.int .i64 0,.int .i64 0] 77 (0,0)) (by (with_reducible repeat (first|refine qe_ ?_ _|refine qg_ ?_|refine qd_ ?_ _));exact BK267.out) hb);have n1_:=aK (qm_ (by repeat (first|(with_reducible first|exact HB.out|apply qb_|apply qa_|apply qc_|refine qf_ ?_ GE267.out)|exact HB.out)) hb);clear BK267;clear HB;have BK267:=n0_;have HB:=n1_;clear n0_ n1_;(try clear hb);(try clear hb2);(try clear hk);(try clear hi)))
     have n0_:=aK (qg_ BK267.out)
     have n1_:=aK (qc_ HB.out)
     clear BK267
     clear HB
     have BK267:=n0_
     have HB:=n1_
     clear n0_ n1_
     refine start_ (n:=9) (S:=fun w'=>True) (ds:=[]) #[fF,fF,fF,fF,fF,fF,fF,fF,fF] (by kernel_rfl) rfl rfl trivial (fun hHeld=>?_);refine with_tabW qx1_.tab6 qx1_.bits6 (fun HT_ HW_=>?_)
     generalize w23.drew=w24 at BK267 HB hHeld ⊢
     refine pure_ (i:=0) (N:=some 18) (v:=?_) (a':=?_) #[tT,fF,fF,fF,fF,fF,fF,fF,fF] rfl rfl (any_of HT_.out (by kernel_rfl)) (fun _ _ _ h=>h) (Or.inl ⟨by rfl,?_⟩) ?_ ?_
     rotate_left
     ·intro w'
      go_simp
      with_reducible rfl
     rotate_left
     ·simp only [Act.put,List.setIfInBounds_toArray,List.set_cons_zero,List.set_cons_succ,i64_w,i32_w]
      rfl
     refine pure_ (i:=1) (N:=some 19) (v:=?_) (a':=?_) #[tT,tT,fF,fF,fF,fF,fF,fF,fF] rfl rfl (any_of HT_.out (by kernel_rfl)) (fun _ _ _ h=>h) (Or.inl ⟨by rfl,?_⟩) ?_ ?_
     rotate_left
     ·intro w'
      go_simp
      with_reducible rfl
     rotate_left
     ·simp only [Act.put,List.setIfInBounds_toArray,List.set_cons_zero,List.set_cons_succ,i64_w,i32_w]
      rfl
     refine pure_ (i:=2) (N:=some 20) (v:=?_) (a':=?_) #[tT,tT,tT,fF,fF,fF,fF,fF,fF] rfl rfl (any_of HT_.out (by kernel_rfl)) (fun _ _ _ h=>h) (Or.inl ⟨by rfl,?_⟩) ?_ ?_
     rotate_left
     ·intro w'
      go_simp
      with_reducible rfl
     rotate_left
     ·simp only [Act.put,List.setIfInBounds_toArray,List.set_cons_zero,List.set_cons_succ,i64_w,i32_w]
      rfl
     refine pure_ (i:=3) (N:=some 21) (v:=?_) (a':=?_) #[tT,tT,tT,tT,fF,fF,fF,fF,fF] rfl rfl (any_of HT_.out (by kernel_rfl)) (fun _ _ _ h=>h) (Or.inl ⟨by rfl,?_⟩) ?_ ?_
     rotate_left
     ·intro w'
      go_simp
      with_reducible rfl
     rotate_left
     ·simp only [Act.put,List.setIfInBounds_toArray,List.set_cons_zero,List.set_cons_succ,i64_w,i32_w]
      rfl
     refine pure_ (i:=4) (N:=some 22) (v:=?_) (a':=?_) #[tT,tT,tT,tT,tT,fF,fF,fF,fF] rfl rfl (any_of HT_.out (by kernel_rfl)) (fun _ _ _ h=>h) (Or.inl ⟨by rfl,?_⟩) ?_ ?_
     rotate_left
     ·intro w'
      go_simp
      with_reducible rfl
     rotate_left
     ·simp only [Act.put,List.setIfInBounds_toArray,List.set_cons_zero,List.set_cons_succ,i64_w,i32_w]
      rfl
     refine pure_ (i:=5) (N:=some 23) (v:=?_) (a':=?_) #[tT,tT,tT,tT,tT,tT,fF,fF,fF] rfl rfl (any_of HT_.out (by kernel_rfl)) (fun _ _ _ h=>h) (Or.inl ⟨by rfl,?_⟩) ?_ ?_
     rotate_left
     ·intro w'
      go_simp
      with_reducible rfl
     rotate_left
     ·simp only [Act.put,List.setIfInBounds_toArray,List.set_cons_zero,List.set_cons_succ,i64_w,i32_w]
      rfl
     refine pure_ (i:=6) (N:=some 24) (v:=?_) (a':=?_) #[tT,tT,tT,tT,tT,tT,tT,fF,fF] rfl rfl (any_of HT_.out (by kernel_rfl)) (fun _ _ _ h=>h) (Or.inl ⟨by rfl,?_⟩) ?_ ?_
     rotate_left
     ·intro w'
      go_simp
      with_reducible rfl
     rotate_left
     ·simp only [Act.put,List.setIfInBounds_toArray,List.set_cons_zero,List.set_cons_succ,i64_w,i32_w]
      rfl
     refine one_ (i:=7) (N:=some 7) #[tT,tT,tT,tT,tT,tT,tT,tT,fF] rfl rfl (one_of HT_.out (by kernel_rfl)) (by decide) (fun K hK=>?_)
     refine box_step ?hg (N:=7) ?hd (cs:=#[.int .i64 0,.int .i64 0]) (t:=77) ?hr ?_;(case hd=>rfl);(case hg=>rfl);(case hr=>first|(go_simp;done)|(go_simp;rfl))
     intro gb269 hg w25 hbox hb
     have n0_:=aK (ql_ (g:=gb267) (o:=.cells #[.int .i64 0,.int .i64 0] 77 (0,0)) (by (with_reducible repeat (first|refine qe_ ?_ _|refine qg_ ?_|refine qd_ ?_ _));exact BK267.out) hb)
     have n1_:=aK (qm_ (by repeat (first|(with_reducible first|exact HB.out|apply qb_|apply qa_|apply qc_|refine qf_ ?_ GE267.out)|exact HB.out)) hb)
     have n2_:=aK (hbox)
     have n3_:=aK ((by rw [hg];exact (qk_ (by repeat (first|(with_reducible first|exact HB.out|apply qb_|apply qa_|apply qc_|refine qf_ ?_ GE267.out)|exact HB.out))):w.heap.size≤gb269))
     have n4_:=aK ((by rw [hg];exact (qk_ (by repeat (first|(with_reducible first|exact HB.out|apply qb_|apply qa_|apply qc_|refine qf_ ?_ GE267.out)|exact HB.out))):w.heap.size≤gb269))
     have n5_:=aK ((by rw [hg];exact Nat.ne_of_lt (blk_lt (g:=gb267) (o:=.cells #[.int .i64 0,.int .i64 0] 77 (0,0)) (by (with_reducible repeat (first|refine qe_ ?_ _|refine qg_ ?_|refine qd_ ?_ _));exact BK267.out)):gb267 ≠ gb269))
     have n6_:=aK ((by rw [hg];exact Nat.ne_of_gt (blk_lt (g:=gb267) (o:=.cells #[.int .i64 0,.int .i64 0] 77 (0,0)) (by (with_reducible repeat (first|refine qe_ ?_ _|refine qg_ ?_|refine qd_ ?_ _));exact BK267.out)):gb269 ≠ gb267))
     clear BK267
     clear HB
     have BK267:=n0_
     have HB:=n1_
     have BK269:=n2_
     have GW269:=n3_
     have GE269:=n4_
     have NB267_269:=n5_
     have NB269_267:=n6_
     clear n0_ n1_ n2_ n3_ n4_ n5_ n6_
     clear hb hbox hg
     refine hK.out _ _ trivial (fun hHeld=>?_)
     clear hK K
     refine norm_ (a':=?_) ?_ ?_
     rotate_left
     ·show Act.put _ (some 7) _=_
      simp only [Act.put,List.setIfInBounds_toArray,List.set_cons_zero,List.set_cons_succ,i64_w,i32_w]
      rfl
     refine one_ (i:=8) (N:=none) #[tT,tT,tT,tT,tT,tT,tT,tT,tT] rfl rfl (one_of HT_.out (by kernel_rfl)) (by decide) (fun K hK=>?_)
     have hs26:w25.cell? ⟨gb269,0,none⟩=some (.int .i64 0):=(qi_ BK269.out 0).trans rfl
     have hfs26:=qh_ BK269.out 0
     have hns26_0:=NB267_269.out
     have hms26_0:=NB269_267.out
     have hs27:w25.cell? ⟨gb269,1,none⟩=some (.int .i64 0):=(qi_ BK269.out 1).trans rfl
     have hfs27:=qh_ BK269.out 1
     have hns27_0:=NB267_269.out
     have hms27_0:=NB269_267.out
     refine skip_ (w1:=?_) (by rfl) rfl ?_ ?_
     rotate_left
     ·go_simp
      rfl
     refine hK.out _ _ trivial (fun hHeld=>?_)
     clear hK K
     refine done_ (done_of HT_.out (by kernel_rfl)) ?_
     have hnb28:=NB269_267.out
     have hnc28:=NB267_269.out
     have hcz29_0:w25.cell? ⟨gb269,0,none⟩=some (.int .i64 0):=(qi_ BK269.out 0).trans rfl
     have hcz29_1:w25.cell? ⟨gb269,1,none⟩=some (.int .i64 0):=(qi_ BK269.out 1).trans rfl
     have hfz29_0:=qh_ BK269.out 0
     have hfz29_1:=qh_ BK269.out 1
     try go_wp2_with (first|((with_reducible refine qt_ (f:=151) rfl ?_);refine goesL_ (some 26) rfl rfl Try.func151 (by kernel_rfl) rfl #[.agg #[.int .i64 (wrap64 (Int.tdiv a0 (wrap64 (-t268)))),.int .i64 (wrap64 (Int.tdiv a1 (wrap64 (-t268))))]] rfl (by (try simp only [List.map_toArray,List.map_cons,List.map_nil]);first|done|rfl|(simp only [List.length_drop,List.length_take];rfl)) ?_;(with_reducible refine (qc1_.calls k (wrap64 (Int.tdiv a0 (wrap64 (-t268)))) (wrap64 (Int.tdiv a1 (wrap64 (-t268)))) false _ A9.out).mono ?_);rintro e w30 ⟨rfl,hb⟩;refine ⟨_,rfl,?_⟩;have n0_:=aK (ql_ (g:=gb267) (o:=.cells #[.int .i64 0,.int .i64 0] 77 (0,0)) (by (with_reducible repeat (first|refine qe_ ?_ _|refine qg_ ?_|refine qd_ ?_ _));refine qa1_ ?_ NB267_269.out _;(with_reducible repeat (first|refine qe_ ?_ _|refine qg_ ?_|refine qd_ ?_ _));refine qa1_ ?_ NB267_269.out _;(with_reducible repeat (first|refine qe_ ?_ _|refine qg_ ?_|refine qd_ ?_ _));exact BK267.out) hb);have n1_:=aK (ql_ (g:=gb269) (o:=.cells #[.int .i64 (wrap64 (Int.tdiv a0 (wrap64 (-t268)))),.int .i64 (wrap64 (Int.tdiv a1 (wrap64 (-t268))))] 77 (0,0)) (by (with_reducible repeat (first|refine qe_ ?_ _|refine qg_ ?_|refine qd_ ?_ _));refine qy_ (cs:=#[.int .i64 (wrap64 (Int.tdiv a0 (wrap64 (-t268)))),.int .i64 0]) ?_ 1 _ rfl;(with_reducible repeat (first|refine qe_ ?_ _|refine qg_ ?_|refine qd_ ?_ _));refine qy_ (cs:=#[.int .i64 0,.int .i64 0]) ?_ 0 _ rfl;(with_reducible repeat (first|refine qe_ ?_ _|refine qg_ ?_|refine qd_ ?_ _));exact BK269.out) hb);have n2_:=aK (qm_ (by repeat (first|(with_reducible first|exact HB.out|apply qb_|apply qa_|apply qc_|refine qf_ ?_ GE267.out|refine qf_ ?_ GE269.out)|exact HB.out)) hb);clear BK267;clear BK269;clear HB;have BK267:=n0_;have BK269:=n1_;have HB:=n2_;clear n0_ n1_ n2_;(try clear hb);(try clear hb2);(try clear hk);(try clear hi);have hcz31_0:w30.cell? ⟨gb267,0,none⟩=some (.int .i64 0):=(qi_ BK267.out 0).trans rfl;have hcz31_1:w30.cell? ⟨gb267,1,none⟩=some (.int .i64 0):=(qi_ BK267.out 1).trans rfl;have hfz31_0:=qh_ BK267.out 0;have hfz31_1:=qh_ BK267.out 1))
     refine bodyPost_ret (results_ct rfl _ _ gb267 77 #[.int .i64 0,.int .i64 0] (0,0) _ rfl (by (with_reducible repeat (first|refine qe_ ?_ _|refine qg_ ?_|refine qd_ ?_ _));refine qy_ (cs:=#[.int .i64 0,.int .i64 0]) ?_ 1 _ rfl;(with_reducible repeat (first|refine qe_ ?_ _|refine qg_ ?_|refine qd_ ?_ _));refine qy_ (cs:=#[.int .i64 0,.int .i64 0]) ?_ 0 _ rfl;(with_reducible repeat (first|refine qe_ ?_ _|refine qg_ ?_|refine qd_ ?_ _));exact BK267.out) Try.underlying77 rfl (by kernel_rfl)) rfl ?_
     exact ⟨by first|rfl|(simp [qn_,qo_] <;> rfl)|(simp [*,qn_,qo_] <;> rfl),by repeat (first|(with_reducible first|exact HB.out|apply qb_|apply qa_|apply qc_|refine qf_ ?_ GE267.out|refine qf_ ?_ GE269.out)|exact HB.out)⟩
  ·rw [if_neg c7] at H
   have c7b0:decide (a1 < 0)=false:=decide_eq_false c7
   clear c7
   by_cases c32:t268=0
   ·rw [if_pos c32] at H
    exact absurd H (by simp)
   ·rw [if_neg c32] at H
    have c32b0:(t268 == 0)=false:=beq_eq_false_iff_ne.mpr c32
    have c32b1:(t268 != 0)=true:=bne_iff_ne.mpr c32
    replace H:=Option.bind_eq_some_iff.mp H
    obtain ⟨t272,A330,H⟩:=H
    replace H:(if t272=true then (some (wrap64 (Int.tdiv a0 t268),wrap64 (Int.tdiv a1 t268),true)) else (some (0,0,false)))=some (r1,r2,r3):=H
    have A33:=aK A330
    clear A330
    by_cases c34:t272=true
    ·subst c34
     have H1:(some (wrap64 (Int.tdiv a0 t268),wrap64 (Int.tdiv a1 t268),true))=some (r1,r2,r3):=by rw [if_pos rfl] at H;exact H
     clear H
     have H:=H1
     clear H1
     simp only [Option.some.injEq,Prod.mk.injEq] at H
     obtain ⟨rfl,rfl,rfl⟩:=H
     go_enter Try.func177,Try.ntmps177
     try go_wp2_with (first|((with_reducible refine qz_ (N:=4) rfl ?_);refine qv_ ?hg (N:=4) ?hd (cs:=#[.int .i64 0,.int .i64 0]) (t:=77) ?hr ?_;(case hd=>rfl);(case hg=>rfl);(case hr=>first|(go_simp;done)|(go_simp;rfl));intro gb267 hg w35 hbox hb;have n0_:=aK (qm_ (by repeat (first|(with_reducible first|exact HB.out|apply qb_|apply qa_|apply qc_)|exact HB.out)) hb);have n1_:=aK (hbox);have n2_:=aK ((by rw [hg];exact (qk_ (by repeat (first|(with_reducible first|exact HB.out|apply qb_|apply qa_|apply qc_)|exact HB.out))):w.heap.size≤gb267));have n3_:=aK ((by rw [hg];exact (qk_ (by repeat (first|(with_reducible first|exact HB.out|apply qb_|apply qa_|apply qc_)|exact HB.out))):w.heap.size≤gb267));clear HB;have HB:=n0_;have BK267:=n1_;have GW267:=n2_;have GE267:=n3_;clear n0_ n1_ n2_ n3_;clear hb hbox hg)|((with_reducible refine qt_ (f:=205) rfl ?_);refine goesL_ (some 13) rfl rfl Try.func205 (by kernel_rfl) rfl #[.int .i64 a0,.int .i64 a1] rfl (by (try simp only [List.map_toArray,List.map_cons,List.map_nil]);first|done|rfl|(simp only [List.length_drop,List.length_take];rfl)) ?_;(with_reducible refine (qm1_.calls k a0 a1 t268 _ A6.out).mono ?_);rintro e w36 ⟨rfl,hb⟩;refine ⟨_,rfl,?_⟩;have n0_:=aK (ql_ (g:=gb267) (o:=.cells #[.int .i64 0,.int .i64 0] 77 (0,0)) (by (with_reducible repeat (first|refine qe_ ?_ _|refine qg_ ?_|refine qd_ ?_ _));exact BK267.out) hb);have n1_:=aK (qm_ (by repeat (first|(with_reducible first|exact HB.out|apply qb_|apply qa_|apply qc_|refine qf_ ?_ GE267.out)|exact HB.out)) hb);clear BK267;clear HB;have BK267:=n0_;have HB:=n1_;clear n0_ n1_;(try clear hb);(try clear hb2);(try clear hk);(try clear hi)))
     have n0_:=aK (qg_ BK267.out)
     have n1_:=aK (qc_ HB.out)
     clear BK267
     clear HB
     have BK267:=n0_
     have HB:=n1_
     clear n0_ n1_
     refine start_ (n:=9) (S:=fun w'=>True) (ds:=[]) #[fF,fF,fF,fF,fF,fF,fF,fF,fF] (by kernel_rfl) rfl rfl trivial (fun hHeld=>?_);refine with_tabW qx1_.tab6 qx1_.bits6 (fun HT_ HW_=>?_)
     generalize w36.drew=w37 at BK267 HB hHeld ⊢
     refine pure_ (i:=0) (N:=some 18) (v:=?_) (a':=?_) #[tT,fF,fF,fF,fF,fF,fF,fF,fF] rfl rfl (any_of HT_.out (by kernel_rfl)) (fun _ _ _ h=>h) (Or.inl ⟨by rfl,?_⟩) ?_ ?_
     rotate_left
     ·intro w'
      go_simp
      with_reducible rfl
     rotate_left
     ·simp only [Act.put,List.setIfInBounds_toArray,List.set_cons_zero,List.set_cons_succ,i64_w,i32_w]
      rfl
     refine pure_ (i:=1) (N:=some 19) (v:=?_) (a':=?_) #[tT,tT,fF,fF,fF,fF,fF,fF,fF] rfl rfl (any_of HT_.out (by kernel_rfl)) (fun _ _ _ h=>h) (Or.inl ⟨by rfl,?_⟩) ?_ ?_
     rotate_left
     ·intro w'
      go_simp
      with_reducible rfl
     rotate_left
     ·simp only [Act.put,List.setIfInBounds_toArray,List.set_cons_zero,List.set_cons_succ,i64_w,i32_w]
      rfl
     refine pure_ (i:=2) (N:=some 20) (v:=?_) (a':=?_) #[tT,tT,tT,fF,fF,fF,fF,fF,fF] rfl rfl (any_of HT_.out (by kernel_rfl)) (fun _ _ _ h=>h) (Or.inl ⟨by rfl,?_⟩) ?_ ?_
     rotate_left
     ·intro w'
      go_simp
      with_reducible rfl
     rotate_left
     ·simp only [Act.put,List.setIfInBounds_toArray,List.set_cons_zero,List.set_cons_succ,i64_w,i32_w]
      rfl
     refine pure_ (i:=3) (N:=some 21) (v:=?_) (a':=?_) #[tT,tT,tT,tT,fF,fF,fF,fF,fF] rfl rfl (any_of HT_.out (by kernel_rfl)) (fun _ _ _ h=>h) (Or.inl ⟨by rfl,?_⟩) ?_ ?_
     rotate_left
     ·intro w'
      go_simp
      with_reducible rfl
     rotate_left
     ·simp only [Act.put,List.setIfInBounds_toArray,List.set_cons_zero,List.set_cons_succ,i64_w,i32_w]
      rfl
     refine pure_ (i:=4) (N:=some 22) (v:=?_) (a':=?_) #[tT,tT,tT,tT,tT,fF,fF,fF,fF] rfl rfl (any_of HT_.out (by kernel_rfl)) (fun _ _ _ h=>h) (Or.inl ⟨by rfl,?_⟩) ?_ ?_
     rotate_left
     ·intro w'
      go_simp
      with_reducible rfl
     rotate_left
     ·simp only [Act.put,List.setIfInBounds_toArray,List.set_cons_zero,List.set_cons_succ,i64_w,i32_w]
      rfl
     refine pure_ (i:=5) (N:=some 23) (v:=?_) (a':=?_) #[tT,tT,tT,tT,tT,tT,fF,fF,fF] rfl rfl (any_of HT_.out (by kernel_rfl)) (fun _ _ _ h=>h) (Or.inl ⟨by rfl,?_⟩) ?_ ?_
     rotate_left
     ·intro w'
      go_simp
      with_reducible rfl
     rotate_left
     ·simp only [Act.put,List.setIfInBounds_toArray,List.set_cons_zero,List.set_cons_succ,i64_w,i32_w]
      rfl
     refine pure_ (i:=6) (N:=some 24) (v:=?_) (a':=?_) #[tT,tT,tT,tT,tT,tT,tT,fF,fF] rfl rfl (any_of HT_.out (by kernel_rfl)) (fun _ _ _ h=>h) (Or.inl ⟨by rfl,?_⟩) ?_ ?_
     rotate_left
     ·intro w'
      go_simp
      with_reducible rfl
     rotate_left
     ·simp only [Act.put,List.setIfInBounds_toArray,List.set_cons_zero,List.set_cons_succ,i64_w,i32_w]
      rfl
     refine one_ (i:=7) (N:=some 7) #[tT,tT,tT,tT,tT,tT,tT,tT,fF] rfl rfl (one_of HT_.out (by kernel_rfl)) (by decide) (fun K hK=>?_)
     refine box_step ?hg (N:=7) ?hd (cs:=#[.int .i64 0,.int .i64 0]) (t:=77) ?hr ?_;(case hd=>rfl);(case hg=>rfl);(case hr=>first|(go_simp;done)|(go_simp;rfl))
     intro gb271 hg w38 hbox hb
     have n0_:=aK (ql_ (g:=gb267) (o:=.cells #[.int .i64 0,.int .i64 0] 77 (0,0)) (by (with_reducible repeat (first|refine qe_ ?_ _|refine qg_ ?_|refine qd_ ?_ _));exact BK267.out) hb)
     have n1_:=aK (qm_ (by repeat (first|(with_reducible first|exact HB.out|apply qb_|apply qa_|apply qc_|refine qf_ ?_ GE267.out)|exact HB.out)) hb)
     have n2_:=aK (hbox)
     have n3_:=aK ((by rw [hg];exact (qk_ (by repeat (first|(with_reducible first|exact HB.out|apply qb_|apply qa_|apply qc_|refine qf_ ?_ GE267.out)|exact HB.out))):w.heap.size≤gb271))
     have n4_:=aK ((by rw [hg];exact (qk_ (by repeat (first|(with_reducible first|exact HB.out|apply qb_|apply qa_|apply qc_|refine qf_ ?_ GE267.out)|exact HB.out))):w.heap.size≤gb271))
     have n5_:=aK ((by rw [hg];exact Nat.ne_of_lt (blk_lt (g:=gb267) (o:=.cells #[.int .i64 0,.int .i64 0] 77 (0,0)) (by (with_reducible repeat (first|refine qe_ ?_ _|refine qg_ ?_|refine qd_ ?_ _));exact BK267.out)):gb267 ≠ gb271))
     have n6_:=aK ((by rw [hg];exact Nat.ne_of_gt (blk_lt (g:=gb267) (o:=.cells #[.int .i64 0,.int .i64 0] 77 (0,0)) (by (with_reducible repeat (first|refine qe_ ?_ _|refine qg_ ?_|refine qd_ ?_ _));exact BK267.out)):gb271 ≠ gb267))
     clear BK267
     clear HB
     have BK267:=n0_
     have HB:=n1_
     have BK271:=n2_
     have GW271:=n3_
     have GE271:=n4_
     have NB267_271:=n5_
     have NB271_267:=n6_
     clear n0_ n1_ n2_ n3_ n4_ n5_ n6_
     clear hb hbox hg
     refine hK.out _ _ trivial (fun hHeld=>?_)
     clear hK K
     refine norm_ (a':=?_) ?_ ?_
     rotate_left
     ·show Act.put _ (some 7) _=_
      simp only [Act.put,List.setIfInBounds_toArray,List.set_cons_zero,List.set_cons_succ,i64_w,i32_w]
      rfl
     refine one_ (i:=8) (N:=none) #[tT,tT,tT,tT,tT,tT,tT,tT,tT] rfl rfl (one_of HT_.out (by kernel_rfl)) (by decide) (fun K hK=>?_)
     have hs39:w38.cell? ⟨gb271,0,none⟩=some (.int .i64 0):=(qi_ BK271.out 0).trans rfl
     have hfs39:=qh_ BK271.out 0
     have hns39_0:=NB267_271.out
     have hms39_0:=NB271_267.out
     have hs40:w38.cell? ⟨gb271,1,none⟩=some (.int .i64 0):=(qi_ BK271.out 1).trans rfl
     have hfs40:=qh_ BK271.out 1
     have hns40_0:=NB267_271.out
     have hms40_0:=NB271_267.out
     refine skip_ (w1:=?_) (by rfl) rfl ?_ ?_
     rotate_left
     ·go_simp
      rfl
     refine hK.out _ _ trivial (fun hHeld=>?_)
     clear hK K
     refine done_ (done_of HT_.out (by kernel_rfl)) ?_
     have hnb41:=NB271_267.out
     have hnc41:=NB267_271.out
     have hcz42_0:w38.cell? ⟨gb271,0,none⟩=some (.int .i64 0):=(qi_ BK271.out 0).trans rfl
     have hcz42_1:w38.cell? ⟨gb271,1,none⟩=some (.int .i64 0):=(qi_ BK271.out 1).trans rfl
     have hfz42_0:=qh_ BK271.out 0
     have hfz42_1:=qh_ BK271.out 1
     try go_wp2_with (first|((with_reducible refine qt_ (f:=151) rfl ?_);refine goesL_ (some 26) rfl rfl Try.func151 (by kernel_rfl) rfl #[.agg #[.int .i64 (wrap64 (Int.tdiv a0 t268)),.int .i64 (wrap64 (Int.tdiv a1 t268))]] rfl (by (try simp only [List.map_toArray,List.map_cons,List.map_nil]);first|done|rfl|(simp only [List.length_drop,List.length_take];rfl)) ?_;(with_reducible refine (qc1_.calls k (wrap64 (Int.tdiv a0 t268)) (wrap64 (Int.tdiv a1 t268)) true _ A33.out).mono ?_);rintro e w43 ⟨rfl,hb⟩;refine ⟨_,rfl,?_⟩;have n0_:=aK (ql_ (g:=gb267) (o:=.cells #[.int .i64 0,.int .i64 0] 77 (0,0)) (by (with_reducible repeat (first|refine qe_ ?_ _|refine qg_ ?_|refine qd_ ?_ _));refine qa1_ ?_ NB267_271.out _;(with_reducible repeat (first|refine qe_ ?_ _|refine qg_ ?_|refine qd_ ?_ _));refine qa1_ ?_ NB267_271.out _;(with_reducible repeat (first|refine qe_ ?_ _|refine qg_ ?_|refine qd_ ?_ _));exact BK267.out) hb);have n1_:=aK (ql_ (g:=gb271) (o:=.cells #[.int .i64 (wrap64 (Int.tdiv a0 t268)),.int .i64 (wrap64 (Int.tdiv a1 t268))] 77 (0,0)) (by (with_reducible repeat (first|refine qe_ ?_ _|refine qg_ ?_|refine qd_ ?_ _));refine qy_ (cs:=#[.int .i64 (wrap64 (Int.tdiv a0 t268)),.int .i64 0]) ?_ 1 _ rfl;(with_reducible repeat (first|refine qe_ ?_ _|refine qg_ ?_|refine qd_ ?_ _));refine qy_ (cs:=#[.int .i64 0,.int .i64 0]) ?_ 0 _ rfl;(with_reducible repeat (first|refine qe_ ?_ _|refine qg_ ?_|refine qd_ ?_ _));exact BK271.out) hb);have n2_:=aK (qm_ (by repeat (first|(with_reducible first|exact HB.out|apply qb_|apply qa_|apply qc_|refine qf_ ?_ GE267.out|refine qf_ ?_ GE271.out)|exact HB.out)) hb);clear BK267;clear BK271;clear HB;have BK267:=n0_;have BK271:=n1_;have HB:=n2_;clear n0_ n1_ n2_;(try clear hb);(try clear hb2);(try clear hk);(try clear hi);have hcz44_0:w43.cell? ⟨gb271,0,none⟩=some (.int .i64 (wrap64 (Int.tdiv a0 t268))):=(qi_ BK271.out 0).trans rfl;have hcz44_1:w43.cell? ⟨gb271,1,none⟩=some (.int .i64 (wrap64 (Int.tdiv a1 t268))):=(qi_ BK271.out 1).trans rfl;have hfz44_0:=qh_ BK271.out 0;have hfz44_1:=qh_ BK271.out 1;have hcz45_0:w43.cell? ⟨gb267,0,none⟩=some (.int .i64 0):=(qi_ BK267.out 0).trans rfl;have hcz45_1:w43.cell? ⟨gb267,1,none⟩=some (.int .i64 0):=(qi_ BK267.out 1).trans rfl;have hfz45_0:=qh_ BK267.out 0;have hfz45_1:=qh_ BK267.out 1))
     refine bodyPost_ret (results_ct rfl _ _ gb267 77 #[.int .i64 (wrap64 (Int.tdiv a0 t268)),.int .i64 (wrap64 (Int.tdiv a1 t268))] (0,0) _ rfl (by (with_reducible repeat (first|refine qe_ ?_ _|refine qg_ ?_|refine qd_ ?_ _));refine qy_ (cs:=#[.int .i64 (wrap64 (Int.tdiv a0 t268)),.int .i64 0]) ?_ 1 _ rfl;(with_reducible repeat (first|refine qe_ ?_ _|refine qg_ ?_|refine qd_ ?_ _));refine qy_ (cs:=#[.int .i64 0,.int .i64 0]) ?_ 0 _ rfl;(with_reducible repeat (first|refine qe_ ?_ _|refine qg_ ?_|refine qd_ ?_ _));exact BK267.out) Try.underlying77 rfl (by kernel_rfl)) rfl ?_
     exact ⟨by first|rfl|(simp [qn_,qo_] <;> rfl)|(simp [*,qn_,qo_] <;> rfl),by repeat (first|(with_reducible first|exact HB.out|apply qb_|apply qa_|apply qc_|refine qf_ ?_ GE267.out|refine qf_ ?_ GE271.out)|exact HB.out)⟩
    ·replace c34:=Bool.eq_false_iff.mpr c34
     subst c34
     have H1:(some (0,0,false))=some (r1,r2,r3):=by rw [if_neg (show ¬ (false=true) by decide)] at H;exact H
     clear H
     have H:=H1
     clear H1
     simp only [Option.some.injEq,Prod.mk.injEq] at H
     obtain ⟨rfl,rfl,rfl⟩:=H
     go_enter Try.func177,Try.ntmps177
     try go_wp2_with (first|((with_reducible refine qz_ (N:=4) rfl ?_);refine qv_ ?hg (N:=4) ?hd (cs:=#[.int .i64 0,.int .i64 0]) (t:=77) ?hr ?_;(case hd=>rfl);(case hg=>rfl);(case hr=>first|(go_simp;done)|(go_simp;rfl));intro gb267 hg w46 hbox hb;have n0_:=aK (qm_ (by repeat (first|(with_reducible first|exact HB.out|apply qb_|apply qa_|apply qc_)|exact HB.out)) hb);have n1_:=aK (hbox);have n2_:=aK ((by rw [hg];exact (qk_ (by repeat (first|(with_reducible first|exact HB.out|apply qb_|apply qa_|apply qc_)|exact HB.out))):w.heap.size≤gb267));have n3_:=aK ((by rw [hg];exact (qk_ (by repeat (first|(with_reducible first|exact HB.out|apply qb_|apply qa_|apply qc_)|exact HB.out))):w.heap.size≤gb267));clear HB;have HB:=n0_;have BK267:=n1_;have GW267:=n2_;have GE267:=n3_;clear n0_ n1_ n2_ n3_;clear hb hbox hg)|((with_reducible refine qt_ (f:=205) rfl ?_);refine goesL_ (some 13) rfl rfl Try.func205 (by kernel_rfl) rfl #[.int .i64 a0,.int .i64 a1] rfl (by (try simp only [List.map_toArray,List.map_cons,List.map_nil]);first|done|rfl|(simp only [List.length_drop,List.length_take];rfl)) ?_;(with_reducible refine (qm1_.calls k a0 a1 t268 _ A6.out).mono ?_);rintro e w47 ⟨rfl,hb⟩;refine ⟨_,rfl,?_⟩;have n0_:=aK (ql_ (g:=gb267) (o:=.cells #[.int .i64 0,.int .i64 0] 77 (0,0)) (by (with_reducible repeat (first|refine qe_ ?_ _|refine qg_ ?_|refine qd_ ?_ _));exact BK267.out) hb);have n1_:=aK (qm_ (by repeat (first|(with_reducible first|exact HB.out|apply qb_|apply qa_|apply qc_|refine qf_ ?_ GE267.out)|exact HB.out)) hb);clear BK267;clear HB;have BK267:=n0_;have HB:=n1_;clear n0_ n1_;(try clear hb);(try clear hb2);(try clear hk);(try clear hi)))
     have n0_:=aK (qg_ BK267.out)
     have n1_:=aK (qc_ HB.out)
     clear BK267
     clear HB
     have BK267:=n0_
     have HB:=n1_
     clear n0_ n1_
     refine start_ (n:=9) (S:=fun w'=>True) (ds:=[]) #[fF,fF,fF,fF,fF,fF,fF,fF,fF] (by kernel_rfl) rfl rfl trivial (fun hHeld=>?_);refine with_tabW qx1_.tab6 qx1_.bits6 (fun HT_ HW_=>?_)
     generalize w47.drew=w48 at BK267 HB hHeld ⊢
     refine pure_ (i:=0) (N:=some 18) (v:=?_) (a':=?_) #[tT,fF,fF,fF,fF,fF,fF,fF,fF] rfl rfl (any_of HT_.out (by kernel_rfl)) (fun _ _ _ h=>h) (Or.inl ⟨by rfl,?_⟩) ?_ ?_
     rotate_left
     ·intro w'
      go_simp
      with_reducible rfl
     rotate_left
     ·simp only [Act.put,List.setIfInBounds_toArray,List.set_cons_zero,List.set_cons_succ,i64_w,i32_w]
      rfl
     refine pure_ (i:=1) (N:=some 19) (v:=?_) (a':=?_) #[tT,tT,fF,fF,fF,fF,fF,fF,fF] rfl rfl (any_of HT_.out (by kernel_rfl)) (fun _ _ _ h=>h) (Or.inl ⟨by rfl,?_⟩) ?_ ?_
     rotate_left
     ·intro w'
      go_simp
      with_reducible rfl
     rotate_left
     ·simp only [Act.put,List.setIfInBounds_toArray,List.set_cons_zero,List.set_cons_succ,i64_w,i32_w]
      rfl
     refine pure_ (i:=2) (N:=some 20) (v:=?_) (a':=?_) #[tT,tT,tT,fF,fF,fF,fF,fF,fF] rfl rfl (any_of HT_.out (by kernel_rfl)) (fun _ _ _ h=>h) (Or.inl ⟨by rfl,?_⟩) ?_ ?_
     rotate_left
     ·intro w'
      go_simp
      with_reducible rfl
     rotate_left
     ·simp only [Act.put,List.setIfInBounds_toArray,List.set_cons_zero,List.set_cons_succ,i64_w,i32_w]
      rfl
     refine pure_ (i:=3) (N:=some 21) (v:=?_) (a':=?_) #[tT,tT,tT,tT,fF,fF,fF,fF,fF] rfl rfl (any_of HT_.out (by kernel_rfl)) (fun _ _ _ h=>h) (Or.inl ⟨by rfl,?_⟩) ?_ ?_
     rotate_left
     ·intro w'
      go_simp
      with_reducible rfl
     rotate_left
     ·simp only [Act.put,List.setIfInBounds_toArray,List.set_cons_zero,List.set_cons_succ,i64_w,i32_w]
      rfl
     refine pure_ (i:=4) (N:=some 22) (v:=?_) (a':=?_) #[tT,tT,tT,tT,tT,fF,fF,fF,fF] rfl rfl (any_of HT_.out (by kernel_rfl)) (fun _ _ _ h=>h) (Or.inl ⟨by rfl,?_⟩) ?_ ?_
     rotate_left
     ·intro w'
      go_simp
      with_reducible rfl
     rotate_left
     ·simp only [Act.put,List.setIfInBounds_toArray,List.set_cons_zero,List.set_cons_succ,i64_w,i32_w]
      rfl
     refine pure_ (i:=5) (N:=some 23) (v:=?_) (a':=?_) #[tT,tT,tT,tT,tT,tT,fF,fF,fF] rfl rfl (any_of HT_.out (by kernel_rfl)) (fun _ _ _ h=>h) (Or.inl ⟨by rfl,?_⟩) ?_ ?_
     rotate_left
     ·intro w'
      go_simp
      with_reducible rfl
     rotate_left
     ·simp only [Act.put,List.setIfInBounds_toArray,List.set_cons_zero,List.set_cons_succ,i64_w,i32_w]
      rfl
     refine pure_ (i:=6) (N:=some 24) (v:=?_) (a':=?_) #[tT,tT,tT,tT,tT,tT,tT,fF,fF] rfl rfl (any_of HT_.out (by kernel_rfl)) (fun _ _ _ h=>h) (Or.inl ⟨by rfl,?_⟩) ?_ ?_
     rotate_left
     ·intro w'
      go_simp
      with_reducible rfl
     rotate_left
     ·simp only [Act.put,List.setIfInBounds_toArray,List.set_cons_zero,List.set_cons_succ,i64_w,i32_w]
      rfl
     refine one_ (i:=7) (N:=some 7) #[tT,tT,tT,tT,tT,tT,tT,tT,fF] rfl rfl (one_of HT_.out (by kernel_rfl)) (by decide) (fun K hK=>?_)
     refine box_step ?hg (N:=7) ?hd (cs:=#[.int .i64 0,.int .i64 0]) (t:=77) ?hr ?_;(case hd=>rfl);(case hg=>rfl);(case hr=>first|(go_simp;done)|(go_simp;rfl))
     intro gb271 hg w49 hbox hb
     have n0_:=aK (ql_ (g:=gb267) (o:=.cells #[.int .i64 0,.int .i64 0] 77 (0,0)) (by (with_reducible repeat (first|refine qe_ ?_ _|refine qg_ ?_|refine qd_ ?_ _));exact BK267.out) hb)
     have n1_:=aK (qm_ (by repeat (first|(with_reducible first|exact HB.out|apply qb_|apply qa_|apply qc_|refine qf_ ?_ GE267.out)|exact HB.out)) hb)
     have n2_:=aK (hbox)
     have n3_:=aK ((by rw [hg];exact (qk_ (by repeat (first|(with_reducible first|exact HB.out|apply qb_|apply qa_|apply qc_|refine qf_ ?_ GE267.out)|exact HB.out))):w.heap.size≤gb271))
     have n4_:=aK ((by rw [hg];exact (qk_ (by repeat (first|(with_reducible first|exact HB.out|apply qb_|apply qa_|apply qc_|refine qf_ ?_ GE267.out)|exact HB.out))):w.heap.size≤gb271))
     have n5_:=aK ((by rw [hg];exact Nat.ne_of_lt (blk_lt (g:=gb267) (o:=.cells #[.int .i64 0,.int .i64 0] 77 (0,0)) (by (with_reducible repeat (first|refine qe_ ?_ _|refine qg_ ?_|refine qd_ ?_ _));exact BK267.out)):gb267 ≠ gb271))
     have n6_:=aK ((by rw [hg];exact Nat.ne_of_gt (blk_lt (g:=gb267) (o:=.cells #[.int .i64 0,.int .i64 0] 77 (0,0)) (by (with_reducible repeat (first|refine qe_ ?_ _|refine qg_ ?_|refine qd_ ?_ _));exact BK267.out)):gb271 ≠ gb267))
     clear BK267
     clear HB
     have BK267:=n0_
     have HB:=n1_
     have BK271:=n2_
     have GW271:=n3_
     have GE271:=n4_
     have NB267_271:=n5_
     have NB271_267:=n6_
     clear n0_ n1_ n2_ n3_ n4_ n5_ n6_
     clear hb hbox hg
     refine hK.out _ _ trivial (fun hHeld=>?_)
     clear hK K
     refine norm_ (a':=?_) ?_ ?_
     rotate_left
     ·show Act.put _ (some 7) _=_
      simp only [Act.put,List.setIfInBounds_toArray,List.set_cons_zero,List.set_cons_succ,i64_w,i32_w]
      rfl
     refine one_ (i:=8) (N:=none) #[tT,tT,tT,tT,tT,tT,tT,tT,tT] rfl rfl (one_of HT_.out (by kernel_rfl)) (by decide) (fun K hK=>?_)
     have hs50:w49.cell? ⟨gb271,0,none⟩=some (.int .i64 0):=(qi_ BK271.out 0).trans rfl
     have hfs50:=qh_ BK271.out 0
     have hns50_0:=NB267_271.out
     have hms50_0:=NB271_267.out
     have hs51:w49.cell? ⟨gb271,1,none⟩=some (.int .i64 0):=(qi_ BK271.out 1).trans rfl
     have hfs51:=qh_ BK271.out 1
     have hns51_0:=NB267_271.out
     have hms51_0:=NB271_267.out
     refine skip_ (w1:=?_) (by rfl) rfl ?_ ?_
     rotate_left
     ·go_simp
      rfl
     refine hK.out _ _ trivial (fun hHeld=>?_)
     clear hK K
     refine done_ (done_of HT_.out (by kernel_rfl)) ?_
     have hnb52:=NB271_267.out
     have hnc52:=NB267_271.out
     have hcz53_0:w49.cell? ⟨gb271,0,none⟩=some (.int .i64 0):=(qi_ BK271.out 0).trans rfl
     have hcz53_1:w49.cell? ⟨gb271,1,none⟩=some (.int .i64 0):=(qi_ BK271.out 1).trans rfl
     have hfz53_0:=qh_ BK271.out 0
     have hfz53_1:=qh_ BK271.out 1
     try go_wp2_with (first|((with_reducible refine qt_ (f:=151) rfl ?_);refine goesL_ (some 26) rfl rfl Try.func151 (by kernel_rfl) rfl #[.agg #[.int .i64 (wrap64 (Int.tdiv a0 t268)),.int .i64 (wrap64 (Int.tdiv a1 t268))]] rfl (by (try simp only [List.map_toArray,List.map_cons,List.map_nil]);first|done|rfl|(simp only [List.length_drop,List.length_take];rfl)) ?_;(with_reducible refine (qc1_.calls k (wrap64 (Int.tdiv a0 t268)) (wrap64 (Int.tdiv a1 t268)) false _ A33.out).mono ?_);rintro e w54 ⟨rfl,hb⟩;refine ⟨_,rfl,?_⟩;have n0_:=aK (ql_ (g:=gb267) (o:=.cells #[.int .i64 0,.int .i64 0] 77 (0,0)) (by (with_reducible repeat (first|refine qe_ ?_ _|refine qg_ ?_|refine qd_ ?_ _));refine qa1_ ?_ NB267_271.out _;(with_reducible repeat (first|refine qe_ ?_ _|refine qg_ ?_|refine qd_ ?_ _));refine qa1_ ?_ NB267_271.out _;(with_reducible repeat (first|refine qe_ ?_ _|refine qg_ ?_|refine qd_ ?_ _));exact BK267.out) hb);have n1_:=aK (ql_ (g:=gb271) (o:=.cells #[.int .i64 (wrap64 (Int.tdiv a0 t268)),.int .i64 (wrap64 (Int.tdiv a1 t268))] 77 (0,0)) (by (with_reducible repeat (first|refine qe_ ?_ _|refine qg_ ?_|refine qd_ ?_ _));refine qy_ (cs:=#[.int .i64 (wrap64 (Int.tdiv a0 t268)),.int .i64 0]) ?_ 1 _ rfl;(with_reducible repeat (first|refine qe_ ?_ _|refine qg_ ?_|refine qd_ ?_ _));refine qy_ (cs:=#[.int .i64 0,.int .i64 0]) ?_ 0 _ rfl;(with_reducible repeat (first|refine qe_ ?_ _|refine qg_ ?_|refine qd_ ?_ _));exact BK271.out) hb);have n2_:=aK (qm_ (by repeat (first|(with_reducible first|exact HB.out|apply qb_|apply qa_|apply qc_|refine qf_ ?_ GE267.out|refine qf_ ?_ GE271.out)|exact HB.out)) hb);clear BK267;clear BK271;clear HB;have BK267:=n0_;have BK271:=n1_;have HB:=n2_;clear n0_ n1_ n2_;(try clear hb);(try clear hb2);(try clear hk);(try clear hi);have hcz55_0:w54.cell? ⟨gb267,0,none⟩=some (.int .i64 0):=(qi_ BK267.out 0).trans rfl;have hcz55_1:w54.cell? ⟨gb267,1,none⟩=some (.int .i64 0):=(qi_ BK267.out 1).trans rfl;have hfz55_0:=qh_ BK267.out 0;have hfz55_1:=qh_ BK267.out 1))
     refine bodyPost_ret (results_ct rfl _ _ gb267 77 #[.int .i64 0,.int .i64 0] (0,0) _ rfl (by (with_reducible repeat (first|refine qe_ ?_ _|refine qg_ ?_|refine qd_ ?_ _));refine qy_ (cs:=#[.int .i64 0,.int .i64 0]) ?_ 1 _ rfl;(with_reducible repeat (first|refine qe_ ?_ _|refine qg_ ?_|refine qd_ ?_ _));refine qy_ (cs:=#[.int .i64 0,.int .i64 0]) ?_ 0 _ rfl;(with_reducible repeat (first|refine qe_ ?_ _|refine qg_ ?_|refine qd_ ?_ _));exact BK267.out) Try.underlying77 rfl (by kernel_rfl)) rfl ?_
     exact ⟨by first|rfl|(simp [qn_,qo_] <;> rfl)|(simp [*,qn_,qo_] <;> rfl),by repeat (first|(with_reducible first|exact HB.out|apply qb_|apply qa_|apply qc_|refine qf_ ?_ GE267.out|refine qf_ ?_ GE271.out)|exact HB.out)⟩
end Go.Proofs.Ytaiefdhenikiiaa.Base
namespace Go.Proofs.Ytaiefdhenikiiaa.Base
open Go.RowKit Go.Proofs.YtaiefdhenikiiaaW.PrintWords Go.Proofs.YtaiefdhenikiiaaW.PrintLast Go.Proofs.YtaiefdhenikiiaaW.PrintMore
attribute [local go_sem] max2_int qv1_ max_two min_two max_three min_three max_four min_four Go.Proofs.YtaiefdhenikiiaaZ.qe1_   -- for this text's walks alone
set_option linter.unusedVariables false
set_option linter.unusedSimpArgs false
def qa2_.f (k:Nat) (a0_0:Int) (a0_1:Int) (a1_0:Int) (a1_1:Int):Option (Int × Int × Bool):=(qx1_.f k (wrap64 ((wrap64 (a0_0 * a1_1))+(wrap64 (a1_0 * a0_1)))) (wrap64 (a0_1 * a1_1))).bind fun bt276=>(some (bt276.1,bt276.2.1,bt276.2.2))
theorem qa2_.mono:∀ a0 a1 a2 a3 k,LeO (qa2_.f k a0 a1 a2 a3) (qa2_.f (k+1) a0 a1 a2 a3):=by
 intro a0 a1 a2 a3 k
 unfold qa2_.f
 repeat' first
   | (with_reducible exact qx1_.mono _ _ _)
   | (with_reducible exact LeO.refl _)
   | (with_reducible exact LeO.none _)
   | (with_reducible refine LeO.ite ?_ ?_)
   | (with_reducible refine LeO.bind ?_ (fun _=>?_))
   | exact qx1_.mono _ _ _
   | exact LeO.none _
   | refine LeO.ite ?_ ?_
   | refine LeO.bind ?_ (fun _=>?_)
set_option maxHeartbeats 8000000 in
set_option maxRecDepth 100000 in
theorem qa2_.calls (k:Nat) (a0_0:Int) (a0_1:Int) (a1_0:Int) (a1_1:Int) (r1:Int) (r2:Int) (r3:Bool) (w:World) (h:qa2_.f k a0_0 a0_1 a1_0 a1_1=some (r1,r2,r3)) :
  Calls Try.prog 187 #[.agg #[.int .i64 a0_0,.int .i64 a0_1],.agg #[.int .i64 a1_0,.int .i64 a1_1]] w fun e w'=>e=.returned (.tuple #[.agg #[.int .i64 r1,.int .i64 r2],.bool r3])∧Below w.heap.size w w':=by
 have hu77:=Try.underlying77
 have HB:=aK (Below.refl w.heap.size w)
 have H:((qx1_.f k (wrap64 ((wrap64 (a0_0 * a1_1))+(wrap64 (a1_0 * a0_1)))) (wrap64 (a0_1 * a1_1))).bind fun bt276=>(some (bt276.1,bt276.2.1,bt276.2.2)))=some (r1,r2,r3):=h
 clear h
 replace H:=Option.bind_eq_some_iff.mp H
 obtain ⟨⟨t276,t277,t278⟩,A30,H⟩:=H
 replace H:(some (t276,t277,t278))=some (r1,r2,r3):=H
 have A3:=aK A30
 clear A30
 simp only [Option.some.injEq,Prod.mk.injEq] at H
 obtain ⟨rfl,rfl,rfl⟩:=H
 go_enter Try.func187,Try.ntmps187
 go_wp2_with (first|((with_reducible refine qz_ (N:=2) rfl ?_);refine qv_ ?hg (N:=2) ?hd (cs:=#[.int .i64 a0_0,.int .i64 a0_1]) (t:=77) ?hr ?_;(case hd=>rfl);(case hg=>rfl);(case hr=>first|(go_simp;done)|(go_simp;rfl));intro gb273 hg w4 hbox hb;have n0_:=aK (qm_ (by repeat (first|(with_reducible first|exact HB.out|apply qb_|apply qa_|apply qc_)|exact HB.out)) hb);have n1_:=aK (hbox);have n2_:=aK ((by rw [hg];exact (qk_ (by repeat (first|(with_reducible first|exact HB.out|apply qb_|apply qa_|apply qc_)|exact HB.out))):w.heap.size≤gb273));have n3_:=aK ((by rw [hg];exact (qk_ (by repeat (first|(with_reducible first|exact HB.out|apply qb_|apply qa_|apply qc_)|exact HB.out))):w.heap.size≤gb273));clear HB;have HB:=n0_;have BK273:=n1_;have GW273:=n2_;have GE273:=n3_;clear n0_ n1_ n2_ n3_;clear hb hbox hg)|((with_reducible refine qz_ (N:=3) rfl ?_);refine qv_ ?hg (N:=3) ?hd (cs:=#[.int .i64 a1_0,.int .i64 a1_1]) (t:=77) ?hr ?_;(case hd=>rfl);(case hg=>rfl);(case hr=>first|(go_simp;done)|(go_simp;rfl));intro gb274 hg w5 hbox hb;have n0_:=aK (ql_ (g:=gb273) (o:=.cells #[.int .i64 a0_0,.int .i64 a0_1] 77 (0,0)) (by (with_reducible repeat (first|refine qe_ ?_ _|refine qg_ ?_|refine qd_ ?_ _));exact BK273.out) hb);have n1_:=aK (qm_ (by repeat (first|(with_reducible first|exact HB.out|apply qb_|apply qa_|apply qc_|refine qf_ ?_ GE273.out)|exact HB.out)) hb);have n2_:=aK (hbox);have n3_:=aK ((by rw [hg];exact (qk_ (by repeat (first|(with_reducible first|exact HB.out|apply qb_|apply qa_|apply qc_|refine qf_ ?_ GE273.out)|exact HB.out))):w.heap.size≤gb274));have n4_:=aK ((by rw [hg];exact (qk_ (by repeat (first|(with_reducible first|exact HB.out|apply qb_|apply qa_|apply qc_|refine qf_ ?_ GE273.out)|exact HB.out))):w.heap.size≤gb274));have n5_:=aK ((by rw [hg];exact Nat.ne_of_lt (blk_lt (g:=gb273) (o:=.cells #[.int .i64 a0_0,.int .i64 a0_1] 77 (0,0)) (by (with_reducible repeat (first|refine qe_ ?_ _|refine qg_ ?_|refine qd_ ?_ _));exact BK273.out)):gb273 ≠ gb274));have n6_:=aK ((by rw [hg];exact Nat.ne_of_gt (blk_lt (g:=gb273) (o:=.cells #[.int .i64 a0_0,.int .i64 a0_1] 77 (0,0)) (by (with_reducible repeat (first|refine qe_ ?_ _|refine qg_ ?_|refine qd_ ?_ _));exact BK273.out)):gb274 ≠ gb273));clear BK273;clear HB;have BK273:=n0_;have HB:=n1_;have BK274:=n2_;have GW274:=n3_;have GE274:=n4_;have NB273_274:=n5_;have NB274_273:=n6_;clear n0_ n1_ n2_ n3_ n4_ n5_ n6_;clear hb hbox hg)|((with_reducible refine qz_ (N:=4) rfl ?_);refine qv_ ?hg (N:=4) ?hd (cs:=#[.int .i64 0,.int .i64 0]) (t:=77) ?hr ?_;(case hd=>rfl);(case hg=>rfl);(case hr=>first|(go_simp;done)|(go_simp;rfl));intro gb275 hg w6 hbox hb;have n0_:=aK (ql_ (g:=gb273) (o:=.cells #[.int .i64 a0_0,.int .i64 a0_1] 77 (0,0)) (by (with_reducible repeat (first|refine qe_ ?_ _|refine qg_ ?_|refine qd_ ?_ _));exact BK273.out) hb);have n1_:=aK (ql_ (g:=gb274) (o:=.cells #[.int .i64 a1_0,.int .i64 a1_1] 77 (0,0)) (by (with_reducible repeat (first|refine qe_ ?_ _|refine qg_ ?_|refine qd_ ?_ _));exact BK274.out) hb);have n2_:=aK (qm_ (by repeat (first|(with_reducible first|exact HB.out|apply qb_|apply qa_|apply qc_|refine qf_ ?_ GE273.out|refine qf_ ?_ GE274.out)|exact HB.out)) hb);have n3_:=aK (hbox);have n4_:=aK ((by rw [hg];exact (qk_ (by repeat (first|(with_reducible first|exact HB.out|apply qb_|apply qa_|apply qc_|refine qf_ ?_ GE273.out|refine qf_ ?_ GE274.out)|exact HB.out))):w.heap.size≤gb275));have n5_:=aK ((by rw [hg];exact (qk_ (by repeat (first|(with_reducible first|exact HB.out|apply qb_|apply qa_|apply qc_|refine qf_ ?_ GE273.out|refine qf_ ?_ GE274.out)|exact HB.out))):w.heap.size≤gb275));have n6_:=aK ((by rw [hg];exact Nat.ne_of_lt (blk_lt (g:=gb273) (o:=.cells #[.int .i64 a0_0,.int .i64 a0_1] 77 (0,0)) (by (with_reducible repeat (first|refine qe_ ?_ _|refine qg_ ?_|refine qd_ ?_ _));exact BK273.out)):gb273 ≠ gb275));have n7_:=aK ((by rw [hg];exact Nat.ne_of_gt (blk_lt (g:=gb273) (o:=.cells #[.int .i64 a0_0,.int .i64 a0_1] 77 (0,0)) (by (with_reducible repeat (first|refine qe_ ?_ _|refine qg_ ?_|refine qd_ ?_ _));exact BK273.out)):gb275 ≠ gb273));have n8_:=aK ((by rw [hg];exact Nat.ne_of_lt (blk_lt (g:=gb274) (o:=.cells #[.int .i64 a1_0,.int .i64 a1_1] 77 (0,0)) (by (with_reducible repeat (first|refine qe_ ?_ _|refine qg_ ?_|refine qd_ ?_ _));exact BK274.out)):gb274 ≠ gb275));have n9_:=aK ((by rw [hg];exact Nat.ne_of_gt (blk_lt (g:=gb274) (o:=.cells #[.int .i64 a1_0,.int .i64 a1_1] 77 (0,0)) (by (with_reducible repeat (first|refine qe_ ?_ _|refine qg_ ?_|refine qd_ ?_ _));exact BK274.out)):gb275 ≠ gb274));clear BK273;clear BK274;clear HB;have BK273:=n0_;have BK274:=n1_;have HB:=n2_;have BK275:=n3_;have GW275:=n4_;have GE275:=n5_;have NB273_275:=n6_;have NB275_273:=n7_;have NB274_275:=n8_;have NB275_274:=n9_;clear n0_ n1_ n2_ n3_ n4_ n5_ n6_ n7_ n8_ n9_;clear hb hbox hg;have hnb7:=NB273_274.out;have hnc7:=NB274_273.out;have hnb8:=NB273_275.out;have hnc8:=NB275_273.out;have hcz9_0:w6.cell? ⟨gb273,0,none⟩=some (.int .i64 a0_0):=(qi_ BK273.out 0).trans rfl;have hcz9_1:w6.cell? ⟨gb273,1,none⟩=some (.int .i64 a0_1):=(qi_ BK273.out 1).trans rfl;have hfz9_0:=qh_ BK273.out 0;have hfz9_1:=qh_ BK273.out 1;have hnb10:=NB274_275.out;have hnc10:=NB275_274.out;have hcz11_0:w6.cell? ⟨gb274,0,none⟩=some (.int .i64 a1_0):=(qi_ BK274.out 0).trans rfl;have hcz11_1:w6.cell? ⟨gb274,1,none⟩=some (.int .i64 a1_1):=(qi_ BK274.out 1).trans rfl;have hfz11_0:=qh_ BK274.out 0;have hfz11_1:=qh_ BK274.out 1)|((with_reducible refine qt_ (f:=177) rfl ?_);refine goesL_ (some 25) rfl rfl Try.func177 (by kernel_rfl) rfl #[.int .i64 (wrap64 ((wrap64 (a0_0 * a1_1))+(wrap64 (a1_0 * a0_1)))),.int .i64 (wrap64 (a0_1 * a1_1))] rfl (by (try simp only [List.map_toArray,List.map_cons,List.map_nil]);first|done|rfl|(simp only [List.length_drop,List.length_take];rfl)) ?_;(with_reducible refine (qx1_.calls k (wrap64 ((wrap64 (a0_0 * a1_1))+(wrap64 (a1_0 * a0_1)))) (wrap64 (a0_1 * a1_1)) t276 t277 t278 _ A3.out).mono ?_);rintro e w12 ⟨rfl,hb⟩;refine ⟨_,rfl,?_⟩;have n0_:=aK (ql_ (g:=gb273) (o:=.cells #[.int .i64 a0_0,.int .i64 a0_1] 77 (0,0)) (by (with_reducible repeat (first|refine qe_ ?_ _|refine qg_ ?_|refine qd_ ?_ _));exact BK273.out) hb);have n1_:=aK (ql_ (g:=gb274) (o:=.cells #[.int .i64 a1_0,.int .i64 a1_1] 77 (0,0)) (by (with_reducible repeat (first|refine qe_ ?_ _|refine qg_ ?_|refine qd_ ?_ _));exact BK274.out) hb);have n2_:=aK (ql_ (g:=gb275) (o:=.cells #[.int .i64 0,.int .i64 0] 77 (0,0)) (by (with_reducible repeat (first|refine qe_ ?_ _|refine qg_ ?_|refine qd_ ?_ _));exact BK275.out) hb);have n3_:=aK (qm_ (by repeat (first|(with_reducible first|exact HB.out|apply qb_|apply qa_|apply qc_|refine qf_ ?_ GE273.out|refine qf_ ?_ GE274.out|refine qf_ ?_ GE275.out)|exact HB.out)) hb);clear BK273;clear BK274;clear BK275;clear HB;have BK273:=n0_;have BK274:=n1_;have BK275:=n2_;have HB:=n3_;clear n0_ n1_ n2_ n3_;(try clear hb);(try clear hb2);(try clear hk);(try clear hi))|((with_reducible refine qz_ (N:=6) rfl ?_);refine qv_ ?hg (N:=6) ?hd (cs:=#[.int .i64 0,.int .i64 0]) (t:=77) ?hr ?_;(case hd=>rfl);(case hg=>rfl);(case hr=>first|(go_simp;done)|(go_simp;rfl));intro gb279 hg w13 hbox hb;have n0_:=aK (ql_ (g:=gb273) (o:=.cells #[.int .i64 a0_0,.int .i64 a0_1] 77 (0,0)) (by (with_reducible repeat (first|refine qe_ ?_ _|refine qg_ ?_|refine qd_ ?_ _));exact BK273.out) hb);have n1_:=aK (ql_ (g:=gb274) (o:=.cells #[.int .i64 a1_0,.int .i64 a1_1] 77 (0,0)) (by (with_reducible repeat (first|refine qe_ ?_ _|refine qg_ ?_|refine qd_ ?_ _));exact BK274.out) hb);have n2_:=aK (ql_ (g:=gb275) (o:=.cells #[.int .i64 0,.int .i64 0] 77 (0,0)) (by (with_reducible repeat (first|refine qe_ ?_ _|refine qg_ ?_|refine qd_ ?_ _));exact BK275.out) hb);have n3_:=aK (qm_ (by repeat (first|(with_reducible first|exact HB.out|apply qb_|apply qa_|apply qc_|refine qf_ ?_ GE273.out|refine qf_ ?_ GE274.out|refine qf_ ?_ GE275.out)|exact HB.out)) hb);have n4_:=aK (hbox);have n5_:=aK ((by rw [hg];exact (qk_ (by repeat (first|(with_reducible first|exact HB.out|apply qb_|apply qa_|apply qc_|refine qf_ ?_ GE273.out|refine qf_ ?_ GE274.out|refine qf_ ?_ GE275.out)|exact HB.out))):w.heap.size≤gb279));have n6_:=aK ((by rw [hg];exact (qk_ (by repeat (first|(with_reducible first|exact HB.out|apply qb_|apply qa_|apply qc_|refine qf_ ?_ GE273.out|refine qf_ ?_ GE274.out|refine qf_ ?_ GE275.out)|exact HB.out))):w.heap.size≤gb279));have n7_:=aK ((by rw [hg];exact Nat.ne_of_lt (blk_lt (g:=gb273) (o:=.cells #[.int .i64 a0_0,.int .i64 a0_1] 77 (0,0)) (by (with_reducible repeat (first|refine qe_ ?_ _|refine qg_ ?_|refine qd_ ?_ _));exact BK273.out)):gb273 ≠ gb279));have n8_:=aK ((by rw [hg];exact Nat.ne_of_gt (blk_lt (g:=gb273) (o:=.cells #[.int .i64 a0_0,.int .i64 a0_1] 77 (0,0)) (by (with_reducible repeat (first|refine qe_ ?_ _|refine qg_ ?_|refine qd_ ?_ _));exact BK273.out)):gb279 ≠ gb273));have n9_:=aK ((by rw [hg];exact Nat.ne_of_lt (blk_lt (g:=gb274) (o:=.cells #[.int .i64 a1_0,.int .i64 a1_1] 77 (0,0)) (by (with_reducible repeat (first|refine qe_ ?_ _|refine qg_ ?_|refine qd_ ?_ _));exact BK274.out)):gb274 ≠ gb279));have n10_:=aK ((by rw [hg];exact Nat.ne_of_gt (blk_lt (g:=gb274) (o:=.cells #[.int .i64 a1_0,.int .i64 a1_1] 77 (0,0)) (by (with_reducible repeat (first|refine qe_ ?_ _|refine qg_ ?_|refine qd_ ?_ _));exact BK274.out)):gb279 ≠ gb274));have n11_:=aK ((by rw [hg];exact Nat.ne_of_lt (blk_lt (g:=gb275) (o:=.cells #[.int .i64 0,.int .i64 0] 77 (0,0)) (by (with_reducible repeat (first|refine qe_ ?_ _|refine qg_ ?_|refine qd_ ?_ _));exact BK275.out)):gb275 ≠ gb279));have n12_:=aK ((by rw [hg];exact Nat.ne_of_gt (blk_lt (g:=gb275) (o:=.cells #[.int .i64 0,.int .i64 0] 77 (0,0)) (by (with_reducible repeat (first|refine qe_ ?_ _|refine qg_ ?_|refine qd_ ?_ _));exact BK275.out)):gb279 ≠ gb275));clear BK273;clear BK274;clear BK275;clear HB;have BK273:=n0_;have BK274:=n1_;have BK275:=n2_;have HB:=n3_;have BK279:=n4_;have GW279:=n5_;have GE279:=n6_;have NB273_279:=n7_;have NB279_273:=n8_;have NB274_279:=n9_;have NB279_274:=n10_;have NB275_279:=n11_;have NB279_275:=n12_;clear n0_ n1_ n2_ n3_ n4_ n5_ n6_ n7_ n8_ n9_ n10_ n11_ n12_;clear hb hbox hg;have hnb14:=NB279_273.out;have hnc14:=NB273_279.out;have hnb15:=NB279_274.out;have hnc15:=NB274_279.out;have hnb16:=NB279_275.out;have hnc16:=NB275_279.out;have hcz17_0:w13.cell? ⟨gb279,0,none⟩=some (.int .i64 0):=(qi_ BK279.out 0).trans rfl;have hcz17_1:w13.cell? ⟨gb279,1,none⟩=some (.int .i64 0):=(qi_ BK279.out 1).trans rfl;have hfz17_0:=qh_ BK279.out 0;have hfz17_1:=qh_ BK279.out 1;have hcz18_0:w13.cell? ⟨gb275,0,none⟩=some (.int .i64 0):=(qi_ BK275.out 0).trans rfl;have hcz18_1:w13.cell? ⟨gb275,1,none⟩=some (.int .i64 0):=(qi_ BK275.out 1).trans rfl;have hfz18_0:=qh_ BK275.out 0;have hfz18_1:=qh_ BK275.out 1))
 refine bodyPost_ret (results_ct rfl _ _ gb275 77 #[.int .i64 t276,.int .i64 t277] (0,0) _ rfl (by (with_reducible repeat (first|refine qe_ ?_ _|refine qg_ ?_|refine qd_ ?_ _));refine qy_ (cs:=#[.int .i64 t276,.int .i64 0]) ?_ 1 _ rfl;(with_reducible repeat (first|refine qe_ ?_ _|refine qg_ ?_|refine qd_ ?_ _));refine qy_ (cs:=#[.int .i64 0,.int .i64 0]) ?_ 0 _ rfl;(with_reducible repeat (first|refine qe_ ?_ _|refine qg_ ?_|refine qd_ ?_ _));refine qa1_ ?_ NB275_279.out _;(with_reducible repeat (first|refine qe_ ?_ _|refine qg_ ?_|refine qd_ ?_ _));refine qa1_ ?_ NB275_279.out _;(with_reducible repeat (first|refine qe_ ?_ _|refine qg_ ?_|refine qd_ ?_ _));exact BK275.out) Try.underlying77 rfl (by kernel_rfl)) rfl ?_
 exact ⟨by first|rfl|(simp [qn_,qo_] <;> rfl)|(simp [*,qn_,qo_] <;> rfl),by repeat (first|(with_reducible first|exact HB.out|apply qb_|apply qa_|apply qc_|refine qf_ ?_ GE273.out|refine qf_ ?_ GE274.out|refine qf_ ?_ GE275.out|refine qf_ ?_ GE279.out)|exact HB.out)⟩
end Go.Proofs.Ytaiefdhenikiiaa.Base
namespace Go.Proofs.Ytaiefdhenikiiaa.Base
open Go.RowKit Go.Proofs.YtaiefdhenikiiaaW.PrintWords Go.Proofs.YtaiefdhenikiiaaW.PrintLast Go.Proofs.YtaiefdhenikiiaaW.PrintMore
attribute [local go_sem] max2_int qv1_ max_two min_two max_three min_three max_four min_four Go.Proofs.YtaiefdhenikiiaaZ.qe1_   -- for this text's walks alone
set_option linter.unusedVariables false
set_option linter.unusedSimpArgs false
def qq1_.l0:Nat→Int→ByteArray→Int→Int→Int→Option (Bool)
 | 0,_,_,_,_,_=>none
 | k+1,x0,x1,x2,x9,x10=>if x10 < x9 then (if 0≤x10 then (if x10 < (x1.size:Int) then (if (wrap64 (bt x1 x10)) < 48 then (some false) else (if (wrap64 (bt x1 x10)) ≥ (wrap64 (48+x0)) then (some false) else (qq1_.l0 k x0 x1 x2 x9 (wrap64 (x10+1))))) else (none)) else (none)) else (some (decide ((x1.size:Int)≤x2)))
def qq1_.f (k:Nat) (a0:Int) (a1:ByteArray) (a2:Int):Option (Bool):=qq1_.l0 k a0 a1 a2 (a1.size:Int) 0
theorem qq1_.mono_l:∀ k,(∀ y0 y1 y2 y3 y4,LeO (qq1_.l0 k y0 y1 y2 y3 y4) (qq1_.l0 (k+1) y0 y1 y2 y3 y4))
 | 0=>fun _ _ _ _ _ r h=>by simp [qq1_.l0] at h
 | k+1=>by
  have ih0:=qq1_.mono_l k
  ·intro y0 y1 y2 y3 y4
   unfold qq1_.l0
   repeat' first
   | (with_reducible exact ih0 _ _ _ _ _)
   | (with_reducible exact LeO.refl _)
   | (with_reducible exact LeO.none _)
   | (with_reducible refine LeO.ite ?_ ?_)
   | (with_reducible refine LeO.bind ?_ (fun _=>?_))
   | exact ih0 _ _ _ _ _
   | exact LeO.none _
   | refine LeO.ite ?_ ?_
   | refine LeO.bind ?_ (fun _=>?_)
theorem qq1_.mono:∀ a0 a1 a2 k,LeO (qq1_.f k a0 a1 a2) (qq1_.f (k+1) a0 a1 a2):=by
 intro a0 a1 a2 k
 have ih0:=qq1_.mono_l k
 unfold qq1_.f
 repeat' first
   | (with_reducible exact ih0 _ _ _ _ _)
   | (with_reducible exact LeO.refl _)
   | (with_reducible exact LeO.none _)
   | (with_reducible refine LeO.ite ?_ ?_)
   | (with_reducible refine LeO.bind ?_ (fun _=>?_))
   | exact ih0 _ _ _ _ _
   | exact LeO.none _
   | refine LeO.ite ?_ ?_
   | refine LeO.bind ?_ (fun _=>?_)
set_option maxHeartbeats 8000000 in
set_option maxRecDepth 100000 in
theorem qq1_.calls (k:Nat) (a0:Int) (a1:ByteArray) (a2:Int) (r:Bool) (w:World) (h:qq1_.f k a0 a1 a2=some r) :
  Calls Try.prog 139 #[.int .i64 a0,.string a1,.int .i64 a2] w fun e w'=>e=.returned (.bool r)∧Drawn0 w w':=by
 have H:(qq1_.l0 k a0 a1 a2 (a1.size:Int) 0)=some r:=h
 clear h
 have H':=aK H
 clear H
 go_enter Try.func139,Try.ntmps139
 go_wp2
 go_loopg [10] k (fun kq v10 w'=>∃ (x10_1:Int),v10=.int .i64 x10_1∧Aside0 (qq1_.l0 kq a0 a1 a2 (a1.size:Int) x10_1=some r)∧Aside0 (kq≤k)∧Drawn0 w w')
 case atStart=>exact ⟨(0),(by first|rfl|(simp;done)|(simp [*];done)),H',⟨Nat.le_refl _⟩,by repeat (first|exact Drawn0.refl _|apply Drawn0.step)⟩
 case round =>
  clear H'
  try clear c1
  try clear p2
  obtain ⟨x10_1,rfl,HA,HK1,⟨m1,rfl⟩⟩:=hrel
  cases gk with
  | zero=>exact absurd HA.out (by simp [qq1_.l0])
  | succ k1 =>
   have H:=HA.out
   clear HA
   simp only [qq1_.l0] at H
   by_cases c4:x10_1 < (a1.size:Int)
   ·rw [if_pos c4] at H
    have c4b0:decide (x10_1 < (a1.size:Int))=true:=decide_eq_true c4
    clear c4
    by_cases c5:0≤x10_1
    ·rw [if_pos c5] at H
     have c5b0:decide (0≤x10_1)=true:=decide_eq_true c5
     clear c5
     by_cases c6:x10_1 < (a1.size:Int)
     ·rw [if_pos c6] at H
      have c6b0:decide (x10_1 < (a1.size:Int))=true:=decide_eq_true c6
      clear c6
      by_cases c8:(wrap64 (bt a1 x10_1)) < 48
      ·rw [if_pos c8] at H
       have c8b0:decide ((wrap64 (bt a1 x10_1)) < 48)=true:=decide_eq_true c8
       clear c8
       obtain rfl:=Option.some.inj H
       have p7:0≤(x10_1:Int):=of_decide_eq_true (by first|(with_reducible assumption)|assumption)
       have q7:x10_1 < (a1.size:Int):=of_decide_eq_true (by first|(with_reducible assumption)|assumption)
       have hx7:=bt_at a1 x10_1
       replace p7:=eq_true p7
       replace q7:=eq_true q7
       go_wp2
       go_ret
       exact ⟨by first|rfl|(simp;done)|(simp [*];done)|(simp [Go.Proofs.YtaiefdhenikiiaaZ.bne_nil];done),by repeat (first|exact Drawn0.refl _|apply Drawn0.step)⟩
      ·rw [if_neg c8] at H
       have c8b0:decide ((wrap64 (bt a1 x10_1)) < 48)=false:=decide_eq_false c8
       clear c8
       by_cases c10:(wrap64 (bt a1 x10_1)) ≥ (wrap64 (48+a0))
       ·rw [if_pos c10] at H
        have c10b0:decide ((wrap64 (48+a0))≤(wrap64 (bt a1 x10_1)))=true:=decide_eq_true c10
        clear c10
        obtain rfl:=Option.some.inj H
        have p7:0≤(x10_1:Int):=of_decide_eq_true (by first|(with_reducible assumption)|assumption)
        have q7:x10_1 < (a1.size:Int):=of_decide_eq_true (by first|(with_reducible assumption)|assumption)
        have hx7:=bt_at a1 x10_1
        replace p7:=eq_true p7
        replace q7:=eq_true q7
        have p9:0≤(x10_1:Int):=of_decide_eq_true (by first|(with_reducible assumption)|assumption)
        have q9:x10_1 < (a1.size:Int):=of_decide_eq_true (by first|(with_reducible assumption)|assumption)
        have hx9:=bt_at a1 x10_1
        replace p9:=eq_true p9
        replace q9:=eq_true q9
        go_wp2
        go_ret
        exact ⟨by first|rfl|(simp;done)|(simp [*];done)|(simp [Go.Proofs.YtaiefdhenikiiaaZ.bne_nil];done),by repeat (first|exact Drawn0.refl _|apply Drawn0.step)⟩
       ·rw [if_neg c10] at H
        have c10b0:decide ((wrap64 (48+a0))≤(wrap64 (bt a1 x10_1)))=false:=decide_eq_false c10
        clear c10
        have H':=aK H
        clear H
        have p7:0≤(x10_1:Int):=of_decide_eq_true (by first|(with_reducible assumption)|assumption)
        have q7:x10_1 < (a1.size:Int):=of_decide_eq_true (by first|(with_reducible assumption)|assumption)
        have hx7:=bt_at a1 x10_1
        replace p7:=eq_true p7
        replace q7:=eq_true q7
        have p9:0≤(x10_1:Int):=of_decide_eq_true (by first|(with_reducible assumption)|assumption)
        have q9:x10_1 < (a1.size:Int):=of_decide_eq_true (by first|(with_reducible assumption)|assumption)
        have hx9:=bt_at a1 x10_1
        replace p9:=eq_true p9
        replace q9:=eq_true q9
        go_wp2
        go_roundg k1
        case measure=>have:=HK1.out;omega
        case rel=>exact ⟨(wrap64 (x10_1+1)),(by first|rfl|(simp;done)|(simp [*];done)),H',⟨by have:=HK1.out;omega⟩,by repeat (first|exact Drawn0.refl _|apply Drawn0.step)⟩
     ·rw [if_neg c6] at H
      exact absurd H (by simp)
    ·rw [if_neg c5] at H
     exact absurd H (by simp)
   ·rw [if_neg c4] at H
    have c4b0:decide (x10_1 < (a1.size:Int))=false:=decide_eq_false c4
    clear c4
    obtain rfl:=Option.some.inj H
    go_wp2
    go_ret
    exact ⟨by first|rfl|(simp;done)|(simp [*];done)|(simp [Go.Proofs.YtaiefdhenikiiaaZ.bne_nil];done),by repeat (first|exact Drawn0.refl _|apply Drawn0.step)⟩
end Go.Proofs.Ytaiefdhenikiiaa.Base
namespace Go.Proofs.Ytaiefdhenikiiaa.Base
open Go.RowKit Go.Proofs.YtaiefdhenikiiaaW.PrintWords Go.Proofs.YtaiefdhenikiiaaW.PrintLast Go.Proofs.YtaiefdhenikiiaaW.PrintMore
attribute [local go_sem] max2_int qv1_ max_two min_two max_three min_three max_four min_four Go.Proofs.YtaiefdhenikiiaaZ.qe1_   -- for this text's walks alone
set_option linter.unusedVariables false
set_option linter.unusedSimpArgs false
def qz1_.l0:Nat→Int→ByteArray→Int→Int→Int→Int→Int→Option (Int)
 | 0,_,_,_,_,_,_,_=>none
 | k+1,x0,x1,x5,x6,x7,x10,x11=>if x11 < x10 then (if 0≤x11 then (if x11 < (x1.size:Int) then (qz1_.l0 k x0 x1 (wrap64 (x5+x7)) (wrap64 ((wrap64 (x6 * x0))+(((bt x1 x11) - 48) % 256))) (wrap64 (x7 * x0)) x10 (wrap64 (x11+1))) else (none)) else (none)) else (some (wrap64 (x5+x6)))
def qz1_.f (k:Nat) (a0:Int) (a1:ByteArray):Option (Int):=qz1_.l0 k a0 a1 0 0 1 (a1.size:Int) 0
theorem qz1_.mono_l:∀ k,(∀ y0 y1 y2 y3 y4 y5 y6,LeO (qz1_.l0 k y0 y1 y2 y3 y4 y5 y6) (qz1_.l0 (k+1) y0 y1 y2 y3 y4 y5 y6))
 | 0=>fun _ _ _ _ _ _ _ r h=>by simp [qz1_.l0] at h
 | k+1=>by
  have ih0:=qz1_.mono_l k
  ·intro y0 y1 y2 y3 y4 y5 y6
   unfold qz1_.l0
   repeat' first
   | (with_reducible exact ih0 _ _ _ _ _ _ _)
   | (with_reducible exact LeO.refl _)
   | (with_reducible exact LeO.none _)
   | (with_reducible refine LeO.ite ?_ ?_)
   | (with_reducible refine LeO.bind ?_ (fun _=>?_))
   | exact ih0 _ _ _ _ _ _ _
   | exact LeO.none _
   | refine LeO.ite ?_ ?_
   | refine LeO.bind ?_ (fun _=>?_)
theorem qz1_.mono:∀ a0 a1 k,LeO (qz1_.f k a0 a1) (qz1_.f (k+1) a0 a1):=by
 intro a0 a1 k
 have ih0:=qz1_.mono_l k
 unfold qz1_.f
 repeat' first
   | (with_reducible exact ih0 _ _ _ _ _ _ _)
   | (with_reducible exact LeO.refl _)
   | (with_reducible exact LeO.none _)
   | (with_reducible refine LeO.ite ?_ ?_)
   | (with_reducible refine LeO.bind ?_ (fun _=>?_))
   | exact ih0 _ _ _ _ _ _ _
   | exact LeO.none _
   | refine LeO.ite ?_ ?_
   | refine LeO.bind ?_ (fun _=>?_)
set_option maxHeartbeats 8000000 in
set_option maxRecDepth 100000 in
theorem qz1_.calls (k:Nat) (a0:Int) (a1:ByteArray) (r:Int) (w:World) (h:qz1_.f k a0 a1=some r) :
  Calls Try.prog 166 #[.int .i64 a0,.string a1] w fun e w'=>e=.returned (.int .i64 r)∧Drawn0 w w':=by
 have H:(qz1_.l0 k a0 a1 0 0 1 (a1.size:Int) 0)=some r:=h
 clear h
 have H':=aK H
 clear H
 go_enter Try.func166,Try.ntmps166
 go_wp2
 go_loopg [5,6,7,11] k (fun kq v5 v6 v7 v11 w'=>∃ (x5_1:Int) (x6_1:Int) (x7_1:Int) (x11_1:Int),v5=.int .i64 x5_1∧v6=.int .i64 x6_1∧v7=.int .i64 x7_1∧v11=.int .i64 x11_1∧Aside0 (qz1_.l0 kq a0 a1 x5_1 x6_1 x7_1 (a1.size:Int) x11_1=some r)∧Aside0 (kq≤k)∧Drawn0 w w')
 case atStart=>exact ⟨(0),(0),(1),(0),(by first|rfl|(simp;done)|(simp [*];done)),(by first|rfl|(simp;done)|(simp [*];done)),(by first|rfl|(simp;done)|(simp [*];done)),(by first|rfl|(simp;done)|(simp [*];done)),H',⟨Nat.le_refl _⟩,by repeat (first|exact Drawn0.refl _|apply Drawn0.step)⟩
 case round =>
  clear H'
  try clear c1
  try clear p2
  obtain ⟨x5_1,x6_1,x7_1,x11_1,rfl,rfl,rfl,rfl,HA,HK1,⟨m1,rfl⟩⟩:=hrel
  cases gk with
  | zero=>exact absurd HA.out (by simp [qz1_.l0])
  | succ k1 =>
   have H:=HA.out
   clear HA
   simp only [qz1_.l0] at H
   by_cases c3:x11_1 < (a1.size:Int)
   ·rw [if_pos c3] at H
    have c3b0:decide (x11_1 < (a1.size:Int))=true:=decide_eq_true c3
    clear c3
    by_cases c4:0≤x11_1
    ·rw [if_pos c4] at H
     have c4b0:decide (0≤x11_1)=true:=decide_eq_true c4
     clear c4
     by_cases c5:x11_1 < (a1.size:Int)
     ·rw [if_pos c5] at H
      have c5b0:decide (x11_1 < (a1.size:Int))=true:=decide_eq_true c5
      clear c5
      have H':=aK H
      clear H
      have p6:0≤(x11_1:Int):=of_decide_eq_true (by first|(with_reducible assumption)|assumption)
      have q6:x11_1 < (a1.size:Int):=of_decide_eq_true (by first|(with_reducible assumption)|assumption)
      have hx6:=bt_at a1 x11_1
      replace p6:=eq_true p6
      replace q6:=eq_true q6
      go_wp2
      go_roundg k1
      case measure=>have:=HK1.out;omega
      case rel=>exact ⟨(wrap64 (x5_1+x7_1)),(wrap64 ((wrap64 (x6_1 * a0))+(((bt a1 x11_1) - 48) % 256))),(wrap64 (x7_1 * a0)),(wrap64 (x11_1+1)),(by first|rfl|(simp;done)|(simp [*];done)),(by first|rfl|(simp;done)|(simp [*];done)),(by first|rfl|(simp;done)|(simp [*];done)),(by first|rfl|(simp;done)|(simp [*];done)),H',⟨by have:=HK1.out;omega⟩,by repeat (first|exact Drawn0.refl _|apply Drawn0.step)⟩
     ·rw [if_neg c5] at H
      exact absurd H (by simp)
    ·rw [if_neg c4] at H
     exact absurd H (by simp)
   ·rw [if_neg c3] at H
    have c3b0:decide (x11_1 < (a1.size:Int))=false:=decide_eq_false c3
    clear c3
    obtain rfl:=Option.some.inj H
    go_wp2
    go_ret
    exact ⟨by first|rfl|(simp;done)|(simp [*];done)|(simp [Go.Proofs.YtaiefdhenikiiaaZ.bne_nil];done),by repeat (first|exact Drawn0.refl _|apply Drawn0.step)⟩
end Go.Proofs.Ytaiefdhenikiiaa.Base
namespace Go.Proofs.Ytaiefdhenikiiaa.Base
open Go.RowKit Go.Proofs.YtaiefdhenikiiaaW.PrintWords Go.Proofs.YtaiefdhenikiiaaW.PrintLast Go.Proofs.YtaiefdhenikiiaaW.PrintMore
attribute [local go_sem] max2_int qv1_ max_two min_two max_three min_three max_four min_four Go.Proofs.YtaiefdhenikiiaaZ.qe1_   -- for this text's walks alone
set_option linter.unusedVariables false
set_option linter.unusedSimpArgs false
def impl_zero.f :Option (Int × Int):=some (0,1)
set_option maxHeartbeats 8000000 in
set_option maxRecDepth 100000 in
theorem impl_zero.calls  (r1:Int) (r2:Int) (w:World) (h:impl_zero.f =some (r1,r2)) :
  Calls Try.prog 180 #[] w fun e w'=>e=.returned (.agg #[.int .i64 r1,.int .i64 r2])∧Below w.heap.size w w':=by
 have hu77:=Try.underlying77
 have HB:=aK (Below.refl w.heap.size w)
 have H:(some (0,1))=some (r1,r2):=h
 clear h
 simp only [Option.some.injEq,Prod.mk.injEq] at H
 obtain ⟨rfl,rfl⟩:=H
 go_enter Try.func180,Try.ntmps180
 go_wp2_with (first|((with_reducible refine qz_ (N:=0) rfl ?_);refine qv_ ?hg (N:=0) ?hd (cs:=#[.int .i64 0,.int .i64 0]) (t:=77) ?hr ?_;(case hd=>rfl);(case hg=>rfl);(case hr=>first|(go_simp;done)|(go_simp;rfl));intro gb393 hg w1 hbox hb;have n0_:=aK (qm_ (by repeat (first|(with_reducible first|exact HB.out|apply qb_|apply qa_|apply qc_)|exact HB.out)) hb);have n1_:=aK (hbox);have n2_:=aK ((by rw [hg];exact (qk_ (by repeat (first|(with_reducible first|exact HB.out|apply qb_|apply qa_|apply qc_)|exact HB.out))):w.heap.size≤gb393));have n3_:=aK ((by rw [hg];exact (qk_ (by repeat (first|(with_reducible first|exact HB.out|apply qb_|apply qa_|apply qc_)|exact HB.out))):w.heap.size≤gb393));clear HB;have HB:=n0_;have BK393:=n1_;have GW393:=n2_;have GE393:=n3_;clear n0_ n1_ n2_ n3_;clear hb hbox hg;have hcz2_0:w1.cell? ⟨gb393,0,none⟩=some (.int .i64 0):=(qi_ BK393.out 0).trans rfl;have hcz2_1:w1.cell? ⟨gb393,1,none⟩=some (.int .i64 0):=(qi_ BK393.out 1).trans rfl;have hfz2_0:=qh_ BK393.out 0;have hfz2_1:=qh_ BK393.out 1))
 refine bodyPost_ret (results_cell_row rfl _ _ gb393 77 #[.int .i64 0,.int .i64 1] (0,0) _ rfl (by (with_reducible repeat (first|refine qe_ ?_ _|refine qg_ ?_|refine qd_ ?_ _));refine qy_ (cs:=#[.int .i64 0,.int .i64 0]) ?_ 1 _ rfl;(with_reducible repeat (first|refine qe_ ?_ _|refine qg_ ?_|refine qd_ ?_ _));refine qy_ (cs:=#[.int .i64 0,.int .i64 0]) ?_ 0 _ rfl;(with_reducible repeat (first|refine qe_ ?_ _|refine qg_ ?_|refine qd_ ?_ _));exact BK393.out) Try.underlying77 rfl (by kernel_rfl)) rfl ?_
 exact ⟨by first|rfl|(simp [qn_,qo_] <;> rfl)|(simp [*,qn_,qo_] <;> rfl),by repeat (first|(with_reducible first|exact HB.out|apply qb_|apply qa_|apply qc_|refine qf_ ?_ GE393.out)|exact HB.out)⟩
end Go.Proofs.Ytaiefdhenikiiaa.Base
namespace Go.Proofs.Ytaiefdhenikiiaa.Base
open Go.RowKit Go.Proofs.YtaiefdhenikiiaaW.PrintWords Go.Proofs.YtaiefdhenikiiaaW.PrintLast Go.Proofs.YtaiefdhenikiiaaW.PrintMore
attribute [local go_sem] max2_int qv1_ max_two min_two max_three min_three max_four min_four Go.Proofs.YtaiefdhenikiiaaZ.qe1_   -- for this text's walks alone
set_option linter.unusedVariables false
set_option linter.unusedSimpArgs false
def qi3_.f (a0:Int):Option (ByteArray):=some (strOfNums (([(48+((a0) % 256)) % 256]:List Int)))
set_option maxHeartbeats 8000000 in
set_option maxRecDepth 100000 in
theorem qi3_.calls (a0:Int) (r:ByteArray) (w:World) (h:qi3_.f a0=some r) :
  Calls Try.prog 225 #[.int .i64 a0] w fun e w'=>e=.returned (.string r)∧Below w.heap.size w w':=by
 have HB:=aK (Below.refl w.heap.size w)
 have H:(some (strOfNums (([(48+((a0) % 256)) % 256]:List Int))))=some r:=h
 clear h
 obtain ⟨y362,hy362⟩:∃ y_:List Int,y_=(([(48+((a0) % 256)) % 256]:List Int)):=⟨_,rfl⟩
 replace H:(some (strOfNums y362))=some r:=by first|(rw [hy362];with_reducible exact H)|(have H2_:=(Option.bind_some _ _).symm.trans H;rw [hy362];with_reducible exact H2_)|(have H2_:=(Option.bind_some _ _).symm.trans H;with_reducible exact H2_)|with_reducible exact H|(rw [hy362];exact H)|exact H
 have Ny362:=aK hy362
 clear hy362
 obtain rfl:=Option.some.inj H
 go_enter Try.func225,Try.ntmps225
 go_wp2_with (first|((with_reducible refine qz_ (N:=6) rfl ?_);refine Kd.R_lit (Kd.int .u8) _ 5 ?hg (N:=6) ?hd (xs:=([(48+((a0) % 256)) % 256]:List Int)) (inner:=[.int .u8 ((48+((a0) % 256)) % 256)]) (ok:=fun _=>True) (okp:=fun _=>True) ?hr ?hp (fun _ hk=>hk) trivial (Below.refl _ _) (Nat.le_refl _) (by simp) ?_;(case hd=>rfl);(case hg=>rfl);(case hr=>first|(go_simp;done)|(go_simp;rfl));(case hp=>exact (Reps.one (show Kd.M (Kd.int .u8) _ _ _ ((48+((a0) % 256)) % 256) [.int .u8 ((48+((a0) % 256)) % 256)] from rfl) (Reps.none _ _)));intro v363 w2 ho3 hb hg_ hnew_;clear hg_ hnew_;(first|rw [← Ny362.out] at ho3|(simp only [Int.reduceToNat] at ho3;rw [← Ny362.out] at ho3));have n0_:=aK (Kd.qt2_ ho3 (qk_ (by repeat (first|(with_reducible first|exact HB.out|apply qb_|apply qa_|apply qc_)|exact HB.out))));have n1_:=aK (qm_ (by repeat (first|(with_reducible first|exact HB.out|apply qb_|apply qa_|apply qc_)|exact HB.out)) hb);clear HB;have HO364:=n0_;have HB:=n1_;clear n0_ n1_;clear hb ho3;have hcv4:=own_string (P:=Try.prog) Try.underlying140 Try.underlying5 Try.underlying9 (Kd.own_of_R HO364.out)))
 go_ret
 exact ⟨by first|rfl|(simp [qn_,qo_] <;> rfl)|(simp [*,qn_,qo_] <;> rfl),by repeat (first|(with_reducible first|exact HB.out|apply qb_|apply qa_|apply qc_)|exact HB.out)⟩
end Go.Proofs.Ytaiefdhenikiiaa.Base
namespace Go.Proofs.Ytaiefdhenikiiaa.Base
open Go.RowKit Go.Proofs.YtaiefdhenikiiaaW.PrintWords Go.Proofs.YtaiefdhenikiiaaW.PrintLast Go.Proofs.YtaiefdhenikiiaaW.PrintMore
attribute [local go_sem] max2_int qv1_ max_two min_two max_three min_three max_four min_four Go.Proofs.YtaiefdhenikiiaaZ.qe1_   -- for this text's walks alone
set_option linter.unusedVariables false
set_option linter.unusedSimpArgs false
mutual
def qf1_.l0:Nat→Int→List ByteArray→Int→Int→Option (List ByteArray)
 | 0,_,_,_,_=>none
 | k+1,x0,x5,x11,x12=>if x12 < x11 then (qf1_.l1 k x0 ([]:List ByteArray) x11 x12 x5 (x5.length:Int) 0) else (some x5)
def qf1_.l1:Nat→Int→List ByteArray→Int→Int→List ByteArray→Int→Int→Option (List ByteArray)
 | 0,_,_,_,_,_,_,_=>none
 | k+1,x0,x6,x11,x12,x14,x15,x16=>if x16 < x15 then (if 0≤x16 then (if x16 < (x14.length:Int) then (qf1_.l2 k x0 x6 (rdOf ByteArray.empty x14 x16) x11 x12 x14 x15 x16 x0 0) else (none)) else (none)) else (qf1_.l0 k x0 x6 x11 (wrap64 (x12+1)))
def qf1_.l2:Nat→Int→List ByteArray→ByteArray→Int→Int→List ByteArray→Int→Int→Int→Int→Option (List ByteArray)
 | 0,_,_,_,_,_,_,_,_,_,_=>none
 | k+1,x0,x6,x8,x11,x12,x14,x15,x16,x20,x21=>if x21 < x20 then ((qi3_.f x21).bind fun t418=>(if x8.size+t418.size≤9223372036854775807 then (if x6.length < 8796093022208 then (qf1_.l2 k x0 (x6 ++ [x8 ++ t418]) x8 x11 x12 x14 x15 x16 x20 (wrap64 (x21+1))) else (none)) else (none))) else (qf1_.l1 k x0 x6 x11 x12 x14 x15 (wrap64 (x16+1)))
end
def qf1_.f (k:Nat) (a0:Int) (a1:Int):Option (List ByteArray):=qf1_.l0 k a0 (([(⟨#[]⟩:ByteArray)]:List ByteArray)) a1 0
theorem qf1_.mono_l:∀ k,(∀ y0 y1 y2 y3,LeO (qf1_.l0 k y0 y1 y2 y3) (qf1_.l0 (k+1) y0 y1 y2 y3))∧(∀ y0 y1 y2 y3 y4 y5 y6,LeO (qf1_.l1 k y0 y1 y2 y3 y4 y5 y6) (qf1_.l1 (k+1) y0 y1 y2 y3 y4 y5 y6))∧(∀ y0 y1 y2 y3 y4 y5 y6 y7 y8 y9,LeO (qf1_.l2 k y0 y1 y2 y3 y4 y5 y6 y7 y8 y9) (qf1_.l2 (k+1) y0 y1 y2 y3 y4 y5 y6 y7 y8 y9))
 | 0=>⟨fun _ _ _ _ r h=>by simp [qf1_.l0] at h,fun _ _ _ _ _ _ _ r h=>by simp [qf1_.l1] at h,fun _ _ _ _ _ _ _ _ _ _ r h=>by simp [qf1_.l2] at h⟩
 | k+1=>by
  obtain ⟨ih0,ih1,ih2⟩:=qf1_.mono_l k
  refine ⟨?_,?_,?_⟩
  ·intro y0 y1 y2 y3
   unfold qf1_.l0
   repeat' first
   | (with_reducible exact ih0 _ _ _ _)
   | (with_reducible exact ih1 _ _ _ _ _ _ _)
   | (with_reducible exact ih2 _ _ _ _ _ _ _ _ _ _)
   | (with_reducible exact LeO.refl _)
   | (with_reducible exact LeO.none _)
   | (with_reducible refine LeO.ite ?_ ?_)
   | (with_reducible refine LeO.bind ?_ (fun _=>?_))
   | exact ih0 _ _ _ _
   | exact ih1 _ _ _ _ _ _ _
   | exact ih2 _ _ _ _ _ _ _ _ _ _
   | exact LeO.none _
   | refine LeO.ite ?_ ?_
   | refine LeO.bind ?_ (fun _=>?_)
  ·intro y0 y1 y2 y3 y4 y5 y6
   unfold qf1_.l1
   repeat' first
   | (with_reducible exact ih0 _ _ _ _)
   | (with_reducible exact ih1 _ _ _ _ _ _ _)
   | (with_reducible exact ih2 _ _ _ _ _ _ _ _ _ _)
   | (with_reducible exact LeO.refl _)
   | (with_reducible exact LeO.none _)
   | (with_reducible refine LeO.ite ?_ ?_)
   | (with_reducible refine LeO.bind ?_ (fun _=>?_))
   | exact ih0 _ _ _ _
   | exact ih1 _ _ _ _ _ _ _
   | exact ih2 _ _ _ _ _ _ _ _ _ _
   | exact LeO.none _
   | refine LeO.ite ?_ ?_
   | refine LeO.bind ?_ (fun _=>?_)
  ·intro y0 y1 y2 y3 y4 y5 y6 y7 y8 y9
   unfold qf1_.l2
   repeat' first
   | (with_reducible exact ih0 _ _ _ _)
   | (with_reducible exact ih1 _ _ _ _ _ _ _)
   | (with_reducible exact ih2 _ _ _ _ _ _ _ _ _ _)
   | (with_reducible exact LeO.refl _)
   | (with_reducible exact LeO.none _)
   | (with_reducible refine LeO.ite ?_ ?_)
   | (with_reducible refine LeO.bind ?_ (fun _=>?_))
   | exact ih0 _ _ _ _
   | exact ih1 _ _ _ _ _ _ _
   | exact ih2 _ _ _ _ _ _ _ _ _ _
   | exact LeO.none _
   | refine LeO.ite ?_ ?_
   | refine LeO.bind ?_ (fun _=>?_)
theorem qf1_.mono:∀ a0 a1 k,LeO (qf1_.f k a0 a1) (qf1_.f (k+1) a0 a1):=by
 intro a0 a1 k
 obtain ⟨ih0,ih1,ih2⟩:=qf1_.mono_l k
 unfold qf1_.f
 repeat' first
   | (with_reducible exact ih0 _ _ _ _)
   | (with_reducible exact ih1 _ _ _ _ _ _ _)
   | (with_reducible exact ih2 _ _ _ _ _ _ _ _ _ _)
   | (with_reducible exact LeO.refl _)
   | (with_reducible exact LeO.none _)
   | (with_reducible refine LeO.ite ?_ ?_)
   | (with_reducible refine LeO.bind ?_ (fun _=>?_))
   | exact ih0 _ _ _ _
   | exact ih1 _ _ _ _ _ _ _
   | exact ih2 _ _ _ _ _ _ _ _ _ _
   | exact LeO.none _
   | refine LeO.ite ?_ ?_
   | refine LeO.bind ?_ (fun _=>?_)
set_option maxHeartbeats 8000000 in
set_option maxRecDepth 100000 in
theorem qf1_.calls (k:Nat) (a0:Int) (a1:Int) (r:List ByteArray) (w:World) (h:qf1_.f k a0 a1=some r) :
  Calls Try.prog 215 #[.int .i64 a0,.int .i64 a1] w fun e w'=>∃ v0_:Value,e=.returned (v0_)∧Kd.R Kd.string 9 w' w.heap.size (fun _=>True) v0_ r∧Below w.heap.size w w':=by
 have HB:=aK (Below.refl w.heap.size w)
 have H:(qf1_.l0 k a0 (([(⟨#[]⟩:ByteArray)]:List ByteArray)) a1 0)=some r:=h
 clear h
 obtain ⟨y414,hy414⟩:∃ y_:List ByteArray,y_=(([(⟨#[]⟩:ByteArray)]:List ByteArray)):=⟨_,rfl⟩
 replace H:(qf1_.l0 k a0 y414 a1 0)=some r:=by first|(rw [hy414];with_reducible exact H)|(have H2_:=(Option.bind_some _ _).symm.trans H;rw [hy414];with_reducible exact H2_)|(have H2_:=(Option.bind_some _ _).symm.trans H;with_reducible exact H2_)|with_reducible exact H|(rw [hy414];exact H)|exact H
 have Ny414:=aK hy414
 clear hy414
 have H':=aK H
 clear H
 go_enter Try.func215,Try.ntmps215
 go_wp2_with (first|((with_reducible refine qz_ (N:=10) rfl ?_);refine Kd.R_lit Kd.string _ 9 ?hg (N:=10) ?hd (xs:=([(⟨#[]⟩:ByteArray)]:List ByteArray)) (inner:=[.string (⟨#[]⟩:ByteArray)]) (ok:=fun _=>True) (okp:=fun _=>True) ?hr ?hp (fun _ hk=>hk) trivial (Below.refl _ _) (Nat.le_refl _) (by simp) ?_;(case hd=>rfl);(case hg=>rfl);(case hr=>first|(go_simp;done)|(go_simp;rfl));(case hp=>exact (Reps.one (show Kd.M Kd.string _ _ _ (⟨#[]⟩:ByteArray) [.string (⟨#[]⟩:ByteArray)] from rfl) (Reps.none _ _)));intro v415 w3 ho4 hb hg_ hnew_;clear hg_ hnew_;(first|rw [← Ny414.out] at ho4|(simp only [Int.reduceToNat] at ho4;rw [← Ny414.out] at ho4));have n0_:=aK (Kd.qt2_ ho4 (qk_ (by repeat (first|(with_reducible first|exact HB.out|apply qb_|apply qa_|apply qc_)|exact HB.out))));have n1_:=aK (qm_ (by repeat (first|(with_reducible first|exact HB.out|apply qb_|apply qa_|apply qc_)|exact HB.out)) hb);clear HB;have HO416:=n0_;have HB:=n1_;clear n0_ n1_;clear hb ho4))
 go_loopg [5,12] k (fun kq v5 v12 w'=>∃ (x5_1:List ByteArray) (x12_1:Int),v12=.int .i64 x12_1∧Aside0 (qf1_.l0 kq a0 x5_1 a1 x12_1=some r)∧Aside0 (kq≤k)∧Aside0 (Kd.R Kd.string 9 w' w.heap.size (fun _=>True) v5 x5_1)∧Aside0 (Below w.heap.size w w'))
 case atStart=>exact ⟨(y414),(0),(by first|rfl|(simp;done)|(simp [*];done)),H',⟨Nat.le_refl _⟩,⟨by (with_reducible repeat (first|apply Kd.qq_|apply Kd.qr_|apply Kd.R_drew));exact HO416.out⟩,⟨by repeat (first|(with_reducible first|exact HB.out|apply qb_|apply qa_|apply qc_)|exact HB.out)⟩⟩
 case round =>
  clear H'
  try clear c2
  try clear p2
  obtain ⟨x5_1,x12_1,rfl,HA,HK1,HO_5,HB⟩:=hrel
  cases gk with
  | zero=>exact absurd HA.out (by simp [qf1_.l0])
  | succ k1 =>
   have H:=HA.out
   clear HA
   simp only [qf1_.l0] at H
   by_cases c5:x12_1 < a1
   ·rw [if_pos c5] at H
    have c5b0:decide (x12_1 < a1)=true:=decide_eq_true c5
    clear c5
    have H':=aK H
    clear H
    obtain ⟨Ao6,co6,eo6⟩:=Kd.qq2_ HO_5.out
    subst eo6
    go_wp2
    go_loopg [6,16] k1 (fun kq v6 v16 w'=>∃ (x6_2:List ByteArray) (x16_2:Int),v16=.int .i64 x16_2∧Aside0 (qf1_.l1 kq a0 x6_2 a1 x12_1 x5_1 (x5_1.length:Int) x16_2=some r)∧Aside0 (kq≤k1)∧Aside0 (Kd.R Kd.string 9 w' w.heap.size (fun k_=>some k_ ≠ ((.slice Ao6 x5_1.length co6):Value).ownBlock) v6 x6_2)∧Aside0 (Kd.R Kd.string 9 w' w.heap.size (fun k_=>some k_ ≠ (v6:Value).ownBlock) (.slice Ao6 x5_1.length co6) x5_1)∧Aside0 (Below w.heap.size w w'))
    case atStart=>exact ⟨(([]:List ByteArray)),(0),(by first|rfl|(simp;done)|(simp [*];done)),H',⟨Nat.le_refl _⟩,⟨by first|exact Kd.R_nil _ _ _ _ _|exact Kd.N_nil _ _ _ _ _|exact Kd.V_nil _ _ _ _ _|exact Kd.Q_nil _ _ _ _ _|exact Kd.S_nil _ _ _ _ _⟩,⟨by (with_reducible repeat (first|apply Kd.qq_|apply Kd.qr_|apply Kd.R_drew));exact Kd.R_mono HO_5.out (fun _ hk=>(by simp [Value.ownBlock]))⟩,⟨by repeat (first|(with_reducible first|exact HB.out|apply qb_|apply qa_|apply qc_)|exact HB.out)⟩⟩
    case round =>
     clear H'
     try clear c2
     try clear p2
     try clear c5
     try clear c5b0
     try clear p2
     obtain ⟨x6_2,x16_2,rfl,HA,HK2,HO_6,HO_14,HB⟩:=hrel
     cases gk with
     | zero=>exact absurd HA.out (by simp [qf1_.l1])
     | succ k2 =>
      have H:=HA.out
      clear HA
      simp only [qf1_.l1] at H
      by_cases c7:x16_2 < (x5_1.length:Int)
      ·rw [if_pos c7] at H
       have c7b0:decide (x16_2 < (x5_1.length:Int))=true:=decide_eq_true c7
       clear c7
       by_cases c8:0≤x16_2
       ·rw [if_pos c8] at H
        have c8b0:decide (0≤x16_2)=true:=decide_eq_true c8
        clear c8
        by_cases c9:x16_2 < (x5_1.length:Int)
        ·rw [if_pos c9] at H
         have c9b0:decide (x16_2 < (x5_1.length:Int))=true:=decide_eq_true c9
         clear c9
         have H':=aK H
         clear H
         have p417:0≤(x16_2:Int):=of_decide_eq_true (by first|(with_reducible assumption)|assumption)
         have q417:x16_2 < (x5_1.length:Int):=of_decide_eq_true (by first|(with_reducible assumption)|assumption)
         obtain ⟨ad417,e417,hx417_0⟩:=Kd.at_string (Kd.qp1_ HO_14.out).2.2 x16_2 p417 q417
         cases e417
         replace p417:=eq_true p417
         replace q417:=eq_true q417
         go_wp2
         go_loopg [6,21] k2 (fun kq v6 v21 w'=>∃ (x6_3:List ByteArray) (x21_3:Int),v21=.int .i64 x21_3∧Aside0 (qf1_.l2 kq a0 x6_3 (rdOf ByteArray.empty x5_1 x16_2) a1 x12_1 x5_1 (x5_1.length:Int) x16_2 a0 x21_3=some r)∧Aside0 (kq≤k2)∧Aside0 (Kd.R Kd.string 9 w' w.heap.size (fun k_=>some k_ ≠ ((.slice (some ad417) x5_1.length co6):Value).ownBlock) v6 x6_3)∧Aside0 (Kd.R Kd.string 9 w' w.heap.size (fun k_=>some k_ ≠ (v6:Value).ownBlock) (.slice (some ad417) x5_1.length co6) x5_1)∧Aside0 (Below w.heap.size w w'))
         case atStart=>exact ⟨(x6_2),(0),(by first|rfl|(simp;done)|(simp [*];done)),H',⟨Nat.le_refl _⟩,⟨by (with_reducible repeat (first|apply Kd.qq_|apply Kd.qr_|apply Kd.R_drew));exact HO_6.out⟩,⟨by (with_reducible repeat (first|apply Kd.qq_|apply Kd.qr_|apply Kd.R_drew));exact HO_14.out⟩,⟨by repeat (first|(with_reducible first|exact HB.out|apply qb_|apply qa_|apply qc_)|exact HB.out)⟩⟩
         case round =>
          clear H'
          try clear c2
          try clear p2
          try clear p4
          try clear q4
          try clear hx4
          try clear c5
          try clear c5b0
          try clear c7
          try clear c7b0
          try clear c8
          try clear c8b0
          try clear c9
          try clear c9b0
          try clear hx417_0
          try clear p2
          try clear p417
          try clear q417
          obtain ⟨x6_3,x21_3,rfl,HA,HK3,HO_6,HO_14,HB⟩:=hrel
          cases gk with
          | zero=>exact absurd HA.out (by simp [qf1_.l2])
          | succ k3 =>
           have H:=HA.out
           clear HA
           simp only [qf1_.l2] at H
           by_cases c10:x21_3 < a0
           ·rw [if_pos c10] at H
            have c10b0:decide (x21_3 < a0)=true:=decide_eq_true c10
            clear c10
            replace H:=Option.bind_eq_some_iff.mp H
            obtain ⟨t418,A110,H⟩:=H
            replace H:(if (rdOf ByteArray.empty x5_1 x16_2).size+t418.size≤9223372036854775807 then (if x6_3.length < 8796093022208 then (qf1_.l2 k3 a0 (x6_3 ++ [(rdOf ByteArray.empty x5_1 x16_2) ++ t418]) (rdOf ByteArray.empty x5_1 x16_2) a1 x12_1 x5_1 (x5_1.length:Int) x16_2 a0 (wrap64 (x21_3+1))) else (none)) else (none))=some r:=H
            have A11:=aK A110
            clear A110
            by_cases c12:(rdOf ByteArray.empty x5_1 x16_2).size+t418.size≤9223372036854775807
            ·rw [if_pos c12] at H
             have c12b0:=eq_true c12
             have c12b1:decide ((rdOf ByteArray.empty x5_1 x16_2).size+t418.size≤9223372036854775807)=true:=decide_eq_true c12
             try have c12b2:(9223372036854775807 < (rdOf ByteArray.empty x5_1 x16_2).size+t418.size)=False:=eq_false (Nat.not_lt.2 c12)
             by_cases c13:x6_3.length < 8796093022208
             ·rw [if_pos c13] at H
              have LMc13:=aK c13
              clear c13
              obtain ⟨y419,hy419⟩:∃ y_:List ByteArray,y_=(x6_3 ++ [(rdOf ByteArray.empty x5_1 x16_2) ++ t418]):=⟨_,rfl⟩
              replace H:(qf1_.l2 k3 a0 y419 (rdOf ByteArray.empty x5_1 x16_2) a1 x12_1 x5_1 (x5_1.length:Int) x16_2 a0 (wrap64 (x21_3+1)))=some r:=by first|(rw [hy419];with_reducible exact H)|(have H2_:=(Option.bind_some _ _).symm.trans H;rw [hy419];with_reducible exact H2_)|(have H2_:=(Option.bind_some _ _).symm.trans H;with_reducible exact H2_)|with_reducible exact H|(rw [hy419];exact H)|exact H
              have Ny419:=aK hy419
              clear hy419
              have H':=aK H
              clear H
              go_wp2_with (first|((with_reducible refine qt_ (f:=225) rfl ?_);refine goesL_ (some 27) rfl rfl Try.func225 (by kernel_rfl) rfl #[.int .i64 x21_3] rfl (by (try simp only [List.map_toArray,List.map_cons,List.map_nil]);first|done|rfl|(simp only [List.length_drop,List.length_take];rfl)) ?_;(with_reducible refine (qi3_.calls x21_3 t418 _ A11.out).mono ?_);rintro e w14 ⟨rfl,hb⟩;refine ⟨_,rfl,?_⟩;have n0_:=aK (Kd.qj1_ (by (with_reducible repeat (first|apply Kd.qq_|apply Kd.qr_|apply Kd.R_drew));exact HO_6.out) hb);have n1_:=aK (Kd.qj1_ (by (with_reducible repeat (first|apply Kd.qq_|apply Kd.qr_|apply Kd.R_drew));exact HO_14.out) hb);have n2_:=aK (qm_ (by repeat (first|(with_reducible first|exact HB.out|apply qb_|apply qa_|apply qc_)|exact HB.out)) hb);clear HO_6;clear HO_14;clear HB;have HO_6:=n0_;have HO_14:=n1_;have HB:=n2_;clear n0_ n1_ n2_;(try clear hb);(try clear hb2);(try clear hk);(try clear hi))|((with_reducible refine qv2_ (b:=.append) (xs:=#[.tmp 24,.tmp 29]) rfl ?_);at_builtin;refine Kd.R_append Kd.string (w0:=w) w.heap.size rfl (.tmp 24) (.tmp 29) 156 9 (.string ⟨#[]⟩) 16 rfl Try.underlying156 info9 rfl (by decide) (by omega) u6 x6_3 ((rdOf ByteArray.empty x5_1 x16_2) ++ t418) [.string ((rdOf ByteArray.empty x5_1 x16_2) ++ t418)] (fun k_=>some k_ ≠ (.slice (some ad417) x5_1.length co6:Value).ownBlock) (fun _=>False) rfl rfl ?aP (fun _ hk=>hk.elim) ?aF ?aO ?aB ?aS ?aL ?_;(case aP=>exact rfl);(case aB=>exact (by repeat (first|(with_reducible first|exact HB.out|apply qb_|apply qa_|apply qc_)|exact HB.out)));(case aF=>exact (fun k_ hk=>Kd.fresh' (Kd.R_lt (by (with_reducible repeat (first|apply Kd.qq_|apply Kd.qr_|apply Kd.R_drew));exact HO_14.out)) k_ hk));(case aO=>exact (by (with_reducible repeat (first|apply Kd.qq_|apply Kd.qr_|apply Kd.R_drew));exact HO_6.out));(case aS=>exact (qk_ (by repeat (first|(with_reducible first|exact HB.out|apply qb_|apply qa_|apply qc_)|exact HB.out))));(case aL=>have:=LMc13.out;omega);intro v420 w15 ho hb hg hat;rw [← Ny419.out] at ho;have n0_:=aK (Kd.R_after (ok:=(fun _=>True)) (by (with_reducible repeat (first|apply Kd.qq_|apply Kd.qr_|apply Kd.R_drew));exact Kd.R_mono HO_14.out (fun _ hk=>⟨trivial,hk⟩)) hg hat);have n1_:=aK (hb);have n2_:=aK (ho);clear HO_14;clear HB;clear HO_6;have HO_14:=n0_;have HB:=n1_;have HO421:=n2_;clear n0_ n1_ n2_;clear ho hb hg hat))
              go_roundg k3
              case measure=>have:=HK1.out;have:=HK2.out;have:=HK3.out;omega
              case rel=>exact ⟨(y419),(wrap64 (x21_3+1)),(by first|rfl|(simp;done)|(simp [*];done)),H',⟨by have:=HK1.out;have:=HK2.out;have:=HK3.out;omega⟩,⟨by (with_reducible repeat (first|apply Kd.qq_|apply Kd.qr_|apply Kd.R_drew));exact HO421.out⟩,⟨by (with_reducible repeat (first|apply Kd.qq_|apply Kd.qr_|apply Kd.R_drew));exact Kd.R_mono HO_14.out (fun _ hk=>hk.2)⟩,⟨by repeat (first|(with_reducible first|exact HB.out|apply qb_|apply qa_|apply qc_)|exact HB.out)⟩⟩
             ·rw [if_neg c13] at H
              exact absurd H (by simp)
            ·rw [if_neg c12] at H
             exact absurd H (by simp)
           ·rw [if_neg c10] at H
            have c10b0:decide (x21_3 < a0)=false:=decide_eq_false c10
            clear c10
            have H':=aK H
            clear H
            go_wp2
            go_roundg k3
            case measure=>have:=HK1.out;have:=HK2.out;have:=HK3.out;omega
            case rel=>exact ⟨(x6_3),(wrap64 (x16_2+1)),(by first|rfl|(simp;done)|(simp [*];done)),H',⟨by have:=HK1.out;have:=HK2.out;have:=HK3.out;omega⟩,⟨by (with_reducible repeat (first|apply Kd.qq_|apply Kd.qr_|apply Kd.R_drew));exact HO_6.out⟩,⟨by (with_reducible repeat (first|apply Kd.qq_|apply Kd.qr_|apply Kd.R_drew));exact HO_14.out⟩,⟨by repeat (first|(with_reducible first|exact HB.out|apply qb_|apply qa_|apply qc_)|exact HB.out)⟩⟩
        ·rw [if_neg c9] at H
         exact absurd H (by simp)
       ·rw [if_neg c8] at H
        exact absurd H (by simp)
      ·rw [if_neg c7] at H
       have c7b0:decide (x16_2 < (x5_1.length:Int))=false:=decide_eq_false c7
       clear c7
       have H':=aK H
       clear H
       go_wp2
       go_roundg k2
       case measure=>have:=HK1.out;have:=HK2.out;omega
       case rel=>exact ⟨(x6_2),(wrap64 (x12_1+1)),(by first|rfl|(simp;done)|(simp [*];done)),H',⟨by have:=HK1.out;have:=HK2.out;omega⟩,⟨by (with_reducible repeat (first|apply Kd.qq_|apply Kd.qr_|apply Kd.R_drew));exact Kd.R_mono HO_6.out (fun _ hk=>trivial)⟩,⟨by repeat (first|(with_reducible first|exact HB.out|apply qb_|apply qa_|apply qc_)|exact HB.out)⟩⟩
   ·rw [if_neg c5] at H
    have c5b0:decide (x12_1 < a1)=false:=decide_eq_false c5
    clear c5
    obtain rfl:=Option.some.inj H
    go_wp2
    go_ret
    exact ⟨_,by first|rfl|(simp [qn_,qo_] <;> rfl)|(simp [*,qn_,qo_] <;> rfl),by (with_reducible repeat (first|apply Kd.qq_|apply Kd.qr_|apply Kd.R_drew));exact HO_5.out,by repeat (first|(with_reducible first|exact HB.out|apply qb_|apply qa_|apply qc_)|exact HB.out)⟩
end Go.Proofs.Ytaiefdhenikiiaa.Base
namespace Go.Proofs.Ytaiefdhenikiiaa.Base
open Go.RowKit Go.Proofs.YtaiefdhenikiiaaW.PrintWords Go.Proofs.YtaiefdhenikiiaaW.PrintLast Go.Proofs.YtaiefdhenikiiaaW.PrintMore
attribute [local go_sem] max2_int qv1_ max_two min_two max_three min_three max_four min_four Go.Proofs.YtaiefdhenikiiaaZ.qe1_   -- for this text's walks alone
set_option linter.unusedVariables false
set_option linter.unusedSimpArgs false
def qu1_.l0:Nat→Int→List ByteArray→Int→Int→Option (List ByteArray)
 | 0,_,_,_,_=>none
 | k+1,x0,x5,x8,x9=>if x9 < x8 then ((qf1_.f k x0 x9).bind fun t373=>(if x5.length+t373.length < 8796093022208 then (qu1_.l0 k x0 (x5 ++ t373) x8 (wrap64 (x9+1))) else (none))) else (some x5)
def qu1_.f (k:Nat) (a0:Int) (a1:Int):Option (List ByteArray):=qu1_.l0 k a0 ([]:List ByteArray) (wrap64 (a1+1)) 0
theorem qu1_.mono_l:∀ k,(∀ y0 y1 y2 y3,LeO (qu1_.l0 k y0 y1 y2 y3) (qu1_.l0 (k+1) y0 y1 y2 y3))
 | 0=>fun _ _ _ _ r h=>by simp [qu1_.l0] at h
 | k+1=>by
  have ih0:=qu1_.mono_l k
  ·intro y0 y1 y2 y3
   unfold qu1_.l0
   repeat' first
   | (with_reducible exact ih0 _ _ _ _)
   | (with_reducible exact qf1_.mono _ _ _)
   | (with_reducible exact LeO.refl _)
   | (with_reducible exact LeO.none _)
   | (with_reducible refine LeO.ite ?_ ?_)
   | (with_reducible refine LeO.bind ?_ (fun _=>?_))
   | exact ih0 _ _ _ _
   | exact qf1_.mono _ _ _
   | exact LeO.none _
   | refine LeO.ite ?_ ?_
   | refine LeO.bind ?_ (fun _=>?_)
theorem qu1_.mono:∀ a0 a1 k,LeO (qu1_.f k a0 a1) (qu1_.f (k+1) a0 a1):=by
 intro a0 a1 k
 have ih0:=qu1_.mono_l k
 unfold qu1_.f
 repeat' first
   | (with_reducible exact ih0 _ _ _ _)
   | (with_reducible exact qf1_.mono _ _ _)
   | (with_reducible exact LeO.refl _)
   | (with_reducible exact LeO.none _)
   | (with_reducible refine LeO.ite ?_ ?_)
   | (with_reducible refine LeO.bind ?_ (fun _=>?_))
   | exact ih0 _ _ _ _
   | exact qf1_.mono _ _ _
   | exact LeO.none _
   | refine LeO.ite ?_ ?_
   | refine LeO.bind ?_ (fun _=>?_)
set_option maxHeartbeats 8000000 in
set_option maxRecDepth 100000 in
theorem qu1_.calls (k:Nat) (a0:Int) (a1:Int) (r:List ByteArray) (w:World) (h:qu1_.f k a0 a1=some r) :
  Calls Try.prog 175 #[.int .i64 a0,.int .i64 a1] w fun e w'=>∃ v0_:Value,e=.returned (v0_)∧Kd.R Kd.string 9 w' w.heap.size (fun _=>True) v0_ r∧Below w.heap.size w w':=by
 have HB:=aK (Below.refl w.heap.size w)
 have H:(qu1_.l0 k a0 ([]:List ByteArray) (wrap64 (a1+1)) 0)=some r:=h
 clear h
 have H':=aK H
 clear H
 go_enter Try.func175,Try.ntmps175
 go_wp2
 go_loopg [5,9] k (fun kq v5 v9 w'=>∃ (x5_1:List ByteArray) (x9_1:Int),v9=.int .i64 x9_1∧Aside0 (qu1_.l0 kq a0 x5_1 (wrap64 (a1+1)) x9_1=some r)∧Aside0 (kq≤k)∧Aside0 (Kd.R Kd.string 9 w' w.heap.size (fun _=>True) v5 x5_1)∧Aside0 (Below w.heap.size w w'))
 case atStart=>exact ⟨(([]:List ByteArray)),(0),(by first|rfl|(simp;done)|(simp [*];done)),H',⟨Nat.le_refl _⟩,⟨by first|exact Kd.R_nil _ _ _ _ _|exact Kd.N_nil _ _ _ _ _|exact Kd.V_nil _ _ _ _ _|exact Kd.Q_nil _ _ _ _ _|exact Kd.S_nil _ _ _ _ _⟩,⟨by repeat (first|(with_reducible first|exact HB.out|apply qb_|apply qa_|apply qc_)|exact HB.out)⟩⟩
 case round =>
  clear H'
  try clear c1
  try clear p2
  obtain ⟨x5_1,x9_1,rfl,HA,HK1,HO_5,HB⟩:=hrel
  cases gk with
  | zero=>exact absurd HA.out (by simp [qu1_.l0])
  | succ k1 =>
   have H:=HA.out
   clear HA
   simp only [qu1_.l0] at H
   by_cases c3:x9_1 < (wrap64 (a1+1))
   ·rw [if_pos c3] at H
    have c3b0:decide (x9_1 < (wrap64 (a1+1)))=true:=decide_eq_true c3
    clear c3
    replace H:=Option.bind_eq_some_iff.mp H
    obtain ⟨t373,A40,H⟩:=H
    replace H:(if x5_1.length+t373.length < 8796093022208 then (qu1_.l0 k1 a0 (x5_1 ++ t373) (wrap64 (a1+1)) (wrap64 (x9_1+1))) else (none))=some r:=H
    have A4:=aK A40
    clear A40
    by_cases c5:x5_1.length+t373.length < 8796093022208
    ·rw [if_pos c5] at H
     have LMc5:=aK c5
     clear c5
     obtain ⟨y376,hy376⟩:∃ y_:List ByteArray,y_=(x5_1 ++ t373):=⟨_,rfl⟩
     replace H:(qu1_.l0 k1 a0 y376 (wrap64 (a1+1)) (wrap64 (x9_1+1)))=some r:=by first|(rw [hy376];with_reducible exact H)|(have H2_:=(Option.bind_some _ _).symm.trans H;rw [hy376];with_reducible exact H2_)|(have H2_:=(Option.bind_some _ _).symm.trans H;with_reducible exact H2_)|with_reducible exact H|(rw [hy376];exact H)|exact H
     have Ny376:=aK hy376
     clear hy376
     have H':=aK H
     clear H
     go_wp2_with (first|((with_reducible refine qt_ (f:=215) rfl ?_);refine goesL_ (some 15) rfl rfl Try.func215 (by kernel_rfl) rfl #[.int .i64 a0,.int .i64 x9_1] rfl (by (try simp only [List.map_toArray,List.map_cons,List.map_nil]);first|done|rfl|(simp only [List.length_drop,List.length_take];rfl)) ?_;(with_reducible refine (qf1_.calls k1 a0 x9_1 t373 _ A4.out).mono ?_);rintro e w6 ⟨v374,rfl,ho0,hb⟩;refine ⟨_,rfl,?_⟩;have n0_:=aK (Kd.qs2_ (by (with_reducible repeat (first|apply Kd.qq_|apply Kd.qr_|apply Kd.R_drew));exact HO_5.out) (Kd.R_base ho0) hb);have n1_:=aK (Kd.qt2_ (Kd.R_new' ho0 (Kd.R_lt (by (with_reducible repeat (first|apply Kd.qq_|apply Kd.qr_|apply Kd.R_drew));exact HO_5.out))) (qk_ (by repeat (first|(with_reducible first|exact HB.out|apply qb_|apply qa_|apply qc_)|exact HB.out))));have n2_:=aK (qm_ (by repeat (first|(with_reducible first|exact HB.out|apply qb_|apply qa_|apply qc_)|exact HB.out)) hb);clear HO_5;clear HB;have HO_5:=n0_;have HO375:=n1_;have HB:=n2_;clear n0_ n1_ n2_;(try clear hb);(try clear hb2);(try clear hk);(try clear hi);(try clear ho0);obtain ⟨Ao8,co8,eo8⟩:=Kd.qq2_ HO375.out;subst eo8)|((with_reducible refine qv2_ (b:=.append) (xs:=#[.tmp 12,.tmp 15]) rfl ?_);at_builtin;refine Kd.qd3_ Kd.string (w0:=w) w.heap.size rfl (.tmp 12) (.tmp 15) 156 9 (.string ⟨#[]⟩) 16 rfl Try.underlying156 info9 rfl (by decide) (by omega) u5 x5_1 t373 _ _ _ (fun k_=>some k_ ≠ (.slice Ao8 t373.length co8:Value).ownBlock) (fun _=>False) rfl rfl ?aO ?aR (fun _ _ h=>h) (fun _ h=>h.elim) ?aF ?aB ?aS ?aL ?_;(case aR=>repeat (first|exact (Kd.qp1_ HO375.out).2.2|(with_reducible refine Kd.qi2_ ?_ _)|(with_reducible refine Kd.qh2_ ?_ _)|(with_reducible refine Kd.C_drew ?_)));(case aB=>exact (by repeat (first|(with_reducible first|exact HB.out|apply qb_|apply qa_|apply qc_)|exact HB.out)));(case aF=>exact (fun k_ hk=>Kd.fresh' (Kd.R_lt (by (with_reducible repeat (first|apply Kd.qq_|apply Kd.qr_|apply Kd.R_drew));exact HO375.out)) k_ hk));(case aO=>exact (by (with_reducible repeat (first|apply Kd.qq_|apply Kd.qr_|apply Kd.R_drew));exact Kd.R_mono HO_5.out (fun _ hk=>hk.2)));(case aS=>exact (qk_ (by repeat (first|(with_reducible first|exact HB.out|apply qb_|apply qa_|apply qc_)|exact HB.out))));(case aL=>have:=LMc5.out;omega);intro v377 w7 ho hb hg hat;rw [← Ny376.out] at ho;have n0_:=aK (Kd.R_after (ok:=(fun _=>True)) (by (with_reducible repeat (first|apply Kd.qq_|apply Kd.qr_|apply Kd.R_drew));exact HO375.out) hg hat);have n1_:=aK (hb);have n2_:=aK (ho);clear HO375;clear HB;clear HO_5;have HO375:=n0_;have HB:=n1_;have HO378:=n2_;clear n0_ n1_ n2_;clear ho hb hg hat))
     go_roundg k1
     case measure=>have:=HK1.out;omega
     case rel=>exact ⟨(y376),(wrap64 (x9_1+1)),(by first|rfl|(simp;done)|(simp [*];done)),H',⟨by have:=HK1.out;omega⟩,⟨by (with_reducible repeat (first|apply Kd.qq_|apply Kd.qr_|apply Kd.R_drew));exact Kd.R_mono HO378.out (fun _ hk=>trivial)⟩,⟨by repeat (first|(with_reducible first|exact HB.out|apply qb_|apply qa_|apply qc_)|exact HB.out)⟩⟩
    ·rw [if_neg c5] at H
     exact absurd H (by simp)
   ·rw [if_neg c3] at H
    have c3b0:decide (x9_1 < (wrap64 (a1+1)))=false:=decide_eq_false c3
    clear c3
    obtain rfl:=Option.some.inj H
    go_wp2
    go_ret
    exact ⟨_,by first|rfl|(simp [qn_,qo_] <;> rfl)|(simp [*,qn_,qo_] <;> rfl),by (with_reducible repeat (first|apply Kd.qq_|apply Kd.qr_|apply Kd.R_drew));exact HO_5.out,by repeat (first|(with_reducible first|exact HB.out|apply qb_|apply qa_|apply qc_)|exact HB.out)⟩
end Go.Proofs.Ytaiefdhenikiiaa.Base
namespace Go.Proofs.Ytaiefdhenikiiaa.Base
open Go.RowKit Go.Proofs.YtaiefdhenikiiaaW.PrintWords Go.Proofs.YtaiefdhenikiiaaW.PrintLast Go.Proofs.YtaiefdhenikiiaaW.PrintMore
attribute [local go_sem] max2_int qv1_ max_two min_two max_three min_three max_four min_four Go.Proofs.YtaiefdhenikiiaaZ.qe1_   -- for this text's walks alone
set_option linter.unusedVariables false
set_option linter.unusedSimpArgs false
def bits_Mul64.f (a0:Int) (a1:Int):Option (Int × Int):=some (IntKind.u64.wrap ((IntKind.u64.wrap ((IntKind.u64.wrap ((a0 / 4294967296) * (a1 / 4294967296)))+((IntKind.u64.wrap ((IntKind.u64.wrap ((a0 / 4294967296) * (Go.bits .and .u64 a1 4294967295)))+((IntKind.u64.wrap ((Go.bits .and .u64 a0 4294967295) * (Go.bits .and .u64 a1 4294967295))) / 4294967296))) / 4294967296)))+((IntKind.u64.wrap ((Go.bits .and .u64 (IntKind.u64.wrap ((IntKind.u64.wrap ((a0 / 4294967296) * (Go.bits .and .u64 a1 4294967295)))+((IntKind.u64.wrap ((Go.bits .and .u64 a0 4294967295) * (Go.bits .and .u64 a1 4294967295))) / 4294967296))) 4294967295)+(IntKind.u64.wrap ((Go.bits .and .u64 a0 4294967295) * (a1 / 4294967296))))) / 4294967296)),IntKind.u64.wrap (a0 * a1))
set_option maxHeartbeats 8000000 in
set_option maxRecDepth 100000 in
theorem bits_Mul64.calls (a0:Int) (a1:Int) (r1:Int) (r2:Int) (w:World) (h:bits_Mul64.f a0 a1=some (r1,r2)) :
  Calls Try.prog 227 #[.int .u64 a0,.int .u64 a1] w fun e w'=>e=.returned (.tuple #[.int .u64 r1,.int .u64 r2])∧Drawn0 w w':=by
 have H:(some (IntKind.u64.wrap ((IntKind.u64.wrap ((IntKind.u64.wrap ((a0 / 4294967296) * (a1 / 4294967296)))+((IntKind.u64.wrap ((IntKind.u64.wrap ((a0 / 4294967296) * (Go.bits .and .u64 a1 4294967295)))+((IntKind.u64.wrap ((Go.bits .and .u64 a0 4294967295) * (Go.bits .and .u64 a1 4294967295))) / 4294967296))) / 4294967296)))+((IntKind.u64.wrap ((Go.bits .and .u64 (IntKind.u64.wrap ((IntKind.u64.wrap ((a0 / 4294967296) * (Go.bits .and .u64 a1 4294967295)))+((IntKind.u64.wrap ((Go.bits .and .u64 a0 4294967295) * (Go.bits .and .u64 a1 4294967295))) / 4294967296))) 4294967295)+(IntKind.u64.wrap ((Go.bits .and .u64 a0 4294967295) * (a1 / 4294967296))))) / 4294967296)),IntKind.u64.wrap (a0 * a1)))=some (r1,r2):=h
 clear h
 simp only [Option.some.injEq,Prod.mk.injEq] at H
 obtain ⟨rfl,rfl⟩:=H
 go_enter Try.func227,Try.ntmps227
 go_wp2
 go_ret2
 exact ⟨by first|rfl|(simp;done)|(simp [*];done)|(simp [Go.Proofs.YtaiefdhenikiiaaZ.bne_nil];done),by repeat (first|exact Drawn0.refl _|apply Drawn0.step)⟩
end Go.Proofs.Ytaiefdhenikiiaa.Base
namespace Go.Proofs.Ytaiefdhenikiiaa.Base
open Go.RowKit Go.Proofs.YtaiefdhenikiiaaW.PrintWords Go.Proofs.YtaiefdhenikiiaaW.PrintLast Go.Proofs.YtaiefdhenikiiaaW.PrintMore
attribute [local go_sem] max2_int qv1_ max_two min_two max_three min_three max_four min_four Go.Proofs.YtaiefdhenikiiaaZ.qe1_   -- for this text's walks alone
set_option linter.unusedVariables false
set_option linter.unusedSimpArgs false
def bits_Mul.f (a0:Int) (a1:Int):Option (Int × Int):=(bits_Mul64.f a0 a1).bind fun bt391=>(some (bt391.1,bt391.2))
set_option maxHeartbeats 8000000 in
set_option maxRecDepth 100000 in
theorem bits_Mul.calls (a0:Int) (a1:Int) (r1:Int) (r2:Int) (w:World) (h:bits_Mul.f a0 a1=some (r1,r2)) :
  Calls Try.prog 216 #[.int .u64 a0,.int .u64 a1] w fun e w'=>e=.returned (.tuple #[.int .u64 r1,.int .u64 r2])∧Drawn0 w w':=by
 have H:((bits_Mul64.f a0 a1).bind fun bt391=>(some (bt391.1,bt391.2)))=some (r1,r2):=h
 clear h
 replace H:=Option.bind_eq_some_iff.mp H
 obtain ⟨⟨t391,t392⟩,A30,H⟩:=H
 replace H:(some (t391,t392))=some (r1,r2):=H
 have A3:=aK A30
 clear A30
 simp only [Option.some.injEq,Prod.mk.injEq] at H
 obtain ⟨rfl,rfl⟩:=H
 go_enter Try.func216,Try.ntmps216
 go_wp2_with (first|((with_reducible refine qt_ (f:=227) rfl ?_);refine goesL_ (some 25) rfl rfl Try.func227 (by kernel_rfl) rfl #[.int .u64 a0,.int .u64 a1] rfl (by (try simp only [List.map_toArray,List.map_cons,List.map_nil]);first|done|rfl|(simp only [List.length_drop,List.length_take];rfl)) ?_;(with_reducible refine (bits_Mul64.calls a0 a1 t391 t392 _ A3.out).mono ?_);rintro e w' ⟨rfl,⟨nd,rfl⟩⟩;refine ⟨_,rfl,?_⟩))
 go_ret2
 exact ⟨by first|rfl|(simp;done)|(simp [*];done)|(simp [Go.Proofs.YtaiefdhenikiiaaZ.bne_nil];done),by repeat (first|exact Drawn0.refl _|apply Drawn0.step)⟩
end Go.Proofs.Ytaiefdhenikiiaa.Base
namespace Go.Proofs.Ytaiefdhenikiiaa.Base
open Go.RowKit Go.Proofs.YtaiefdhenikiiaaW.PrintWords Go.Proofs.YtaiefdhenikiiaaW.PrintLast Go.Proofs.YtaiefdhenikiiaaW.PrintMore
attribute [local go_sem] max2_int qv1_ max_two min_two max_three min_three max_four min_four Go.Proofs.YtaiefdhenikiiaaZ.qe1_   -- for this text's walks alone
set_option linter.unusedVariables false
set_option linter.unusedSimpArgs false
def qe3_.f (a0_0:ByteArray) (a0_1:Int) (a0_2:Int) (a1:Int):Option (Int):=if (wrap64 (a1 - (a0_0.size:Int))) < 0 then (some (-1)) else (some (wrap64 (a1 - (a0_0.size:Int))))
set_option maxHeartbeats 8000000 in
set_option maxRecDepth 100000 in
theorem qe3_.calls (a0_0:ByteArray) (a0_1:Int) (a0_2:Int) (a1:Int) (r:Int) (w:World) (h:qe3_.f a0_0 a0_1 a0_2 a1=some r) :
  Calls Try.prog 75 #[.agg #[.string a0_0,.int .i64 a0_1,.int .i64 a0_2],.int .i64 a1] w fun e w'=>e=.returned (.int .i64 r)∧Below w.heap.size w w':=by
 have hu75:=Try.underlying75
 have HB:=aK (Below.refl w.heap.size w)
 have H:(if (wrap64 (a1 - (a0_0.size:Int))) < 0 then (some (-1)) else (some (wrap64 (a1 - (a0_0.size:Int)))))=some r:=h
 clear h
 by_cases c3:(wrap64 (a1 - (a0_0.size:Int))) < 0
 ·rw [if_pos c3] at H
  have c3b0:decide ((wrap64 (a1 - (a0_0.size:Int))) < 0)=true:=decide_eq_true c3
  clear c3
  obtain rfl:=Option.some.inj H
  go_enter Try.func75,Try.ntmps75
  go_wp2_with (first|((with_reducible refine qz_ (N:=2) rfl ?_);refine qv_ ?hg (N:=2) ?hd (cs:=#[.string a0_0,.int .i64 a0_1,.int .i64 a0_2]) (t:=75) ?hr ?_;(case hd=>rfl);(case hg=>rfl);(case hr=>first|(go_simp;done)|(go_simp;rfl));intro gb101 hg w4 hbox hb;have n0_:=aK (qm_ (by repeat (first|(with_reducible first|exact HB.out|apply qb_|apply qa_|apply qc_)|exact HB.out)) hb);have n1_:=aK (hbox);have n2_:=aK ((by rw [hg];exact (qk_ (by repeat (first|(with_reducible first|exact HB.out|apply qb_|apply qa_|apply qc_)|exact HB.out))):w.heap.size≤gb101));have n3_:=aK ((by rw [hg];exact (qk_ (by repeat (first|(with_reducible first|exact HB.out|apply qb_|apply qa_|apply qc_)|exact HB.out))):w.heap.size≤gb101));clear HB;have HB:=n0_;have BK101:=n1_;have GW101:=n2_;have GE101:=n3_;clear n0_ n1_ n2_ n3_;clear hb hbox hg;have hcz5_0:w4.cell? ⟨gb101,0,none⟩=some (.string a0_0):=(qi_ BK101.out 0).trans rfl;have hcz5_1:w4.cell? ⟨gb101,1,none⟩=some (.int .i64 a0_1):=(qi_ BK101.out 1).trans rfl;have hcz5_2:w4.cell? ⟨gb101,2,none⟩=some (.int .i64 a0_2):=(qi_ BK101.out 2).trans rfl;have hfz5_0:=qh_ BK101.out 0;have hfz5_1:=qh_ BK101.out 1;have hfz5_2:=qh_ BK101.out 2))
  go_ret
  exact ⟨by first|rfl|(simp [qn_,qo_] <;> rfl)|(simp [*,qn_,qo_] <;> rfl),by repeat (first|(with_reducible first|exact HB.out|apply qb_|apply qa_|apply qc_|refine qf_ ?_ GE101.out)|exact HB.out)⟩
 ·rw [if_neg c3] at H
  have c3b0:decide ((wrap64 (a1 - (a0_0.size:Int))) < 0)=false:=decide_eq_false c3
  clear c3
  obtain rfl:=Option.some.inj H
  go_enter Try.func75,Try.ntmps75
  go_wp2_with (first|((with_reducible refine qz_ (N:=2) rfl ?_);refine qv_ ?hg (N:=2) ?hd (cs:=#[.string a0_0,.int .i64 a0_1,.int .i64 a0_2]) (t:=75) ?hr ?_;(case hd=>rfl);(case hg=>rfl);(case hr=>first|(go_simp;done)|(go_simp;rfl));intro gb101 hg w6 hbox hb;have n0_:=aK (qm_ (by repeat (first|(with_reducible first|exact HB.out|apply qb_|apply qa_|apply qc_)|exact HB.out)) hb);have n1_:=aK (hbox);have n2_:=aK ((by rw [hg];exact (qk_ (by repeat (first|(with_reducible first|exact HB.out|apply qb_|apply qa_|apply qc_)|exact HB.out))):w.heap.size≤gb101));have n3_:=aK ((by rw [hg];exact (qk_ (by repeat (first|(with_reducible first|exact HB.out|apply qb_|apply qa_|apply qc_)|exact HB.out))):w.heap.size≤gb101));clear HB;have HB:=n0_;have BK101:=n1_;have GW101:=n2_;have GE101:=n3_;clear n0_ n1_ n2_ n3_;clear hb hbox hg;have hcz7_0:w6.cell? ⟨gb101,0,none⟩=some (.string a0_0):=(qi_ BK101.out 0).trans rfl;have hcz7_1:w6.cell? ⟨gb101,1,none⟩=some (.int .i64 a0_1):=(qi_ BK101.out 1).trans rfl;have hcz7_2:w6.cell? ⟨gb101,2,none⟩=some (.int .i64 a0_2):=(qi_ BK101.out 2).trans rfl;have hfz7_0:=qh_ BK101.out 0;have hfz7_1:=qh_ BK101.out 1;have hfz7_2:=qh_ BK101.out 2))
  go_ret
  exact ⟨by first|rfl|(simp [qn_,qo_] <;> rfl)|(simp [*,qn_,qo_] <;> rfl),by repeat (first|(with_reducible first|exact HB.out|apply qb_|apply qa_|apply qc_|refine qf_ ?_ GE101.out)|exact HB.out)⟩
end Go.Proofs.Ytaiefdhenikiiaa.Base
namespace Go.Proofs.Ytaiefdhenikiiaa.Base
open Go.RowKit Go.Proofs.YtaiefdhenikiiaaW.PrintWords Go.Proofs.YtaiefdhenikiiaaW.PrintLast Go.Proofs.YtaiefdhenikiiaaW.PrintMore
attribute [local go_sem] max2_int qv1_ max_two min_two max_three min_three max_four min_four Go.Proofs.YtaiefdhenikiiaaZ.qe1_   -- for this text's walks alone
set_option linter.unusedVariables false
set_option linter.unusedSimpArgs false
def qt1_.l0:Nat→List (S75)→Int→Int→Option (Int)
 | 0,_,_,_=>none
 | k+1,x0,x1,x5=>if x5 < (x0.length:Int) then (if 0≤x5 then ((qe3_.f ((rd_T75 x0 x5).f0) ((rd_T75 x0 x5).f1.f0) ((rd_T75 x0 x5).f1.f1) x1).bind fun t103=>(if t103 < 0 then (some (-1)) else (qt1_.l0 k x0 t103 (wrap64 (x5+1))))) else (none)) else (some x1)
def qt1_.f (k:Nat) (l0:List (S75)) (a1:Int):Option (Int):=if (wrap64 (a1 - (l0.length:Int))) < 0 then (some (-1)) else (qt1_.l0 k l0 (wrap64 (a1 - (l0.length:Int))) 0)
theorem qt1_.mono_l:∀ k,(∀ y0 y1 y2,LeO (qt1_.l0 k y0 y1 y2) (qt1_.l0 (k+1) y0 y1 y2))
 | 0=>fun _ _ _ r h=>by simp [qt1_.l0] at h
 | k+1=>by
  have ih0:=qt1_.mono_l k
  ·intro y0 y1 y2
   unfold qt1_.l0
   repeat' first
   | (with_reducible exact ih0 _ _ _)
   | (with_reducible exact LeO.refl _)
   | (with_reducible exact LeO.none _)
   | (with_reducible refine LeO.ite ?_ ?_)
   | (with_reducible refine LeO.bind ?_ (fun _=>?_))
   | exact ih0 _ _ _
   | exact LeO.none _
   | refine LeO.ite ?_ ?_
   | refine LeO.bind ?_ (fun _=>?_)
theorem qt1_.mono:∀ a0 a1 k,LeO (qt1_.f k a0 a1) (qt1_.f (k+1) a0 a1):=by
 intro a0 a1 k
 have ih0:=qt1_.mono_l k
 unfold qt1_.f
 repeat' first
   | (with_reducible exact ih0 _ _ _)
   | (with_reducible exact LeO.refl _)
   | (with_reducible exact LeO.none _)
   | (with_reducible refine LeO.ite ?_ ?_)
   | (with_reducible refine LeO.bind ?_ (fun _=>?_))
   | exact ih0 _ _ _
   | exact LeO.none _
   | refine LeO.ite ?_ ?_
   | refine LeO.bind ?_ (fun _=>?_)
set_option maxHeartbeats 8000000 in
set_option maxRecDepth 100000 in
theorem qt1_.calls (k:Nat) (A0:Option Addr) (c0:Nat) (l0:List (S75)) (a1:Int) (r:Int) (w:World) (hr0:Kd.C k75 w A0 l0.length l0) (hc0:l0.length≤c0) (h:qt1_.f k l0 a1=some r) :
  Calls Try.prog 21 #[.slice A0 l0.length c0,.int .i64 a1] w fun e w'=>e=.returned (.int .i64 r)∧Below w.heap.size w w':=by
 have hu75:=Try.underlying75
 have HR0:=aK hr0
 have HC0:=aK hc0
 clear hr0 hc0
 have HB:=aK (Below.refl w.heap.size w)
 have H:(if (wrap64 (a1 - (l0.length:Int))) < 0 then (some (-1)) else (qt1_.l0 k l0 (wrap64 (a1 - (l0.length:Int))) 0))=some r:=h
 clear h
 by_cases c3:(wrap64 (a1 - (l0.length:Int))) < 0
 ·rw [if_pos c3] at H
  have c3b0:decide ((wrap64 (a1 - (l0.length:Int))) < 0)=true:=decide_eq_true c3
  clear c3
  obtain rfl:=Option.some.inj H
  go_enter Try.func21,Try.ntmps21
  go_wp2
  go_ret
  exact ⟨by first|rfl|(simp [qn_,qo_] <;> rfl)|(simp [*,qn_,qo_] <;> rfl),by repeat (first|(with_reducible first|exact HB.out|apply qb_|apply qa_|apply qc_)|exact HB.out)⟩
 ·rw [if_neg c3] at H
  have c3b0:decide ((wrap64 (a1 - (l0.length:Int))) < 0)=false:=decide_eq_false c3
  clear c3
  have H':=aK H
  clear H
  go_enter Try.func21,Try.ntmps21
  go_wp2
  go_loopg [1,5] k (fun kq v1 v5 w'=>∃ (x1_1:Int) (x5_1:Int),v1=.int .i64 x1_1∧v5=.int .i64 x5_1∧Aside0 (qt1_.l0 kq l0 x1_1 x5_1=some r)∧Aside0 (kq≤k)∧Aside0 (Below w.heap.size w w'))
  case atStart=>exact ⟨(wrap64 (a1 - (l0.length:Int))),(0),(by first|rfl|(simp;done)|(simp [*];done)),(by first|rfl|(simp;done)|(simp [*];done)),H',⟨Nat.le_refl _⟩,⟨by repeat (first|(with_reducible first|exact HB.out|apply qb_|apply qa_|apply qc_)|exact HB.out)⟩⟩
  case round =>
   clear H'
   try clear c2
   try clear p2
   try clear c3
   try clear c3b0
   obtain ⟨x1_1,x5_1,rfl,rfl,HA,HK1,HB⟩:=hrel
   cases gk with
   | zero=>exact absurd HA.out (by simp [qt1_.l0])
   | succ k1 =>
    have H:=HA.out
    clear HA
    simp only [qt1_.l0] at H
    by_cases c4:x5_1 < (l0.length:Int)
    ·rw [if_pos c4] at H
     have c4b0:decide (x5_1 < (l0.length:Int))=true:=decide_eq_true c4
     clear c4
     by_cases c5:0≤x5_1
     ·rw [if_pos c5] at H
      have c5b0:decide (0≤x5_1)=true:=decide_eq_true c5
      clear c5
      replace H:=Option.bind_eq_some_iff.mp H
      obtain ⟨t103,A60,H⟩:=H
      replace H:(if t103 < 0 then (some (-1)) else (qt1_.l0 k1 l0 t103 (wrap64 (x5_1+1))))=some r:=H
      have A6:=aK A60
      clear A60
      by_cases c7:t103 < 0
      ·rw [if_pos c7] at H
       have c7b0:decide (t103 < 0)=true:=decide_eq_true c7
       clear c7
       obtain rfl:=Option.some.inj H
       have p102:0≤(x5_1:Int):=of_decide_eq_true (by first|(with_reducible assumption)|assumption)
       have q102:x5_1 < (l0.length:Int):=of_decide_eq_true (by first|(with_reducible assumption)|assumption)
       obtain ⟨ad102,e102,hx102_0,hx102_1,hx102_2⟩:=at_T75 HR0.out x5_1 p102 q102
       cases e102
       replace hx102_0:=(HB.out.cell (World.block_lt_of_cell? w _ hx102_0)).trans hx102_0
       replace hx102_1:=(HB.out.cell (World.block_lt_of_cell? w _ hx102_1)).trans hx102_1
       replace hx102_2:=(HB.out.cell (World.block_lt_of_cell? w _ hx102_2)).trans hx102_2
       replace p102:=eq_true p102
       replace q102:=eq_true q102
       go_wp2_with (first|((with_reducible refine qt_ (f:=75) rfl ?_);refine goesL_ (some 23) rfl rfl Try.func75 (by kernel_rfl) rfl #[.agg #[.string ((rd_T75 l0 x5_1).f0),.int .i64 ((rd_T75 l0 x5_1).f1.f0),.int .i64 ((rd_T75 l0 x5_1).f1.f1)],.int .i64 x1_1] rfl (by (try simp only [List.map_toArray,List.map_cons,List.map_nil]);first|done|rfl|(simp only [List.length_drop,List.length_take];rfl)) ?_;(with_reducible refine (qe3_.calls ((rd_T75 l0 x5_1).f0) ((rd_T75 l0 x5_1).f1.f0) ((rd_T75 l0 x5_1).f1.f1) x1_1 t103 _ A6.out).mono ?_);rintro e w8 ⟨rfl,hb⟩;refine ⟨_,rfl,?_⟩;have n0_:=aK (qm_ (by repeat (first|(with_reducible first|exact HB.out|apply qb_|apply qa_|apply qc_)|exact HB.out)) hb);clear HB;have HB:=n0_;clear n0_;(try clear hb);(try clear hb2);(try clear hk);(try clear hi)))
       go_ret
       exact ⟨by first|rfl|(simp [qn_,qo_] <;> rfl)|(simp [*,qn_,qo_] <;> rfl),by repeat (first|(with_reducible first|exact HB.out|apply qb_|apply qa_|apply qc_)|exact HB.out)⟩
      ·rw [if_neg c7] at H
       have c7b0:decide (t103 < 0)=false:=decide_eq_false c7
       clear c7
       have H':=aK H
       clear H
       have p102:0≤(x5_1:Int):=of_decide_eq_true (by first|(with_reducible assumption)|assumption)
       have q102:x5_1 < (l0.length:Int):=of_decide_eq_true (by first|(with_reducible assumption)|assumption)
       obtain ⟨ad102,e102,hx102_0,hx102_1,hx102_2⟩:=at_T75 HR0.out x5_1 p102 q102
       cases e102
       replace hx102_0:=(HB.out.cell (World.block_lt_of_cell? w _ hx102_0)).trans hx102_0
       replace hx102_1:=(HB.out.cell (World.block_lt_of_cell? w _ hx102_1)).trans hx102_1
       replace hx102_2:=(HB.out.cell (World.block_lt_of_cell? w _ hx102_2)).trans hx102_2
       replace p102:=eq_true p102
       replace q102:=eq_true q102
       go_wp2_with (first|((with_reducible refine qt_ (f:=75) rfl ?_);refine goesL_ (some 23) rfl rfl Try.func75 (by kernel_rfl) rfl #[.agg #[.string ((rd_T75 l0 x5_1).f0),.int .i64 ((rd_T75 l0 x5_1).f1.f0),.int .i64 ((rd_T75 l0 x5_1).f1.f1)],.int .i64 x1_1] rfl (by (try simp only [List.map_toArray,List.map_cons,List.map_nil]);first|done|rfl|(simp only [List.length_drop,List.length_take];rfl)) ?_;(with_reducible refine (qe3_.calls ((rd_T75 l0 x5_1).f0) ((rd_T75 l0 x5_1).f1.f0) ((rd_T75 l0 x5_1).f1.f1) x1_1 t103 _ A6.out).mono ?_);rintro e w9 ⟨rfl,hb⟩;refine ⟨_,rfl,?_⟩;have n0_:=aK (qm_ (by repeat (first|(with_reducible first|exact HB.out|apply qb_|apply qa_|apply qc_)|exact HB.out)) hb);clear HB;have HB:=n0_;clear n0_;(try clear hb);(try clear hb2);(try clear hk);(try clear hi)))
       go_roundg k1
       case measure=>have:=HK1.out;omega
       case rel=>exact ⟨(t103),(wrap64 (x5_1+1)),(by first|rfl|(simp;done)|(simp [*];done)),(by first|rfl|(simp;done)|(simp [*];done)),H',⟨by have:=HK1.out;omega⟩,⟨by repeat (first|(with_reducible first|exact HB.out|apply qb_|apply qa_|apply qc_)|exact HB.out)⟩⟩
     ·rw [if_neg c5] at H
      exact absurd H (by simp)
    ·rw [if_neg c4] at H
     have c4b0:decide (x5_1 < (l0.length:Int))=false:=decide_eq_false c4
     clear c4
     obtain rfl:=Option.some.inj H
     go_wp2
     go_ret
     exact ⟨by first|rfl|(simp [qn_,qo_] <;> rfl)|(simp [*,qn_,qo_] <;> rfl),by repeat (first|(with_reducible first|exact HB.out|apply qb_|apply qa_|apply qc_)|exact HB.out)⟩
end Go.Proofs.Ytaiefdhenikiiaa.Base
namespace Go.Proofs.Ytaiefdhenikiiaa.Base
open Go.RowKit Go.Proofs.YtaiefdhenikiiaaW.PrintWords Go.Proofs.YtaiefdhenikiiaaW.PrintLast Go.Proofs.YtaiefdhenikiiaaW.PrintMore
attribute [local go_sem] max2_int qv1_ max_two min_two max_three min_three max_four min_four Go.Proofs.YtaiefdhenikiiaaZ.qe1_   -- for this text's walks alone
set_option linter.unusedVariables false
set_option linter.unusedSimpArgs false
def qz2_.f (a0_0:Int) (a0_1:Int):Option (Int × Int):=some (a0_0,a0_1)
set_option maxHeartbeats 8000000 in
set_option maxRecDepth 100000 in
theorem qz2_.calls (a0_0:Int) (a0_1:Int) (r1:Int) (r2:Int) (w:World) (h:qz2_.f a0_0 a0_1=some (r1,r2)) :
  Calls Try.prog 153 #[.agg #[.int .i64 a0_0,.int .i64 a0_1]] w fun e w'=>e=.returned (.agg #[.int .i64 r1,.int .i64 r2])∧Below w.heap.size w w':=by
 have hu73:=Try.underlying73
 have hu77:=Try.underlying77
 have HB:=aK (Below.refl w.heap.size w)
 have H:(some (a0_0,a0_1))=some (r1,r2):=h
 clear h
 simp only [Option.some.injEq,Prod.mk.injEq] at H
 obtain ⟨rfl,rfl⟩:=H
 go_enter Try.func153,Try.ntmps153
 go_wp2_with (first|((with_reducible refine qz_ (N:=1) rfl ?_);refine qv_ ?hg (N:=1) ?hd (cs:=#[.int .i64 a0_0,.int .i64 a0_1]) (t:=73) ?hr ?_;(case hd=>rfl);(case hg=>rfl);(case hr=>first|(go_simp;done)|(go_simp;rfl));intro gb130 hg w2 hbox hb;have n0_:=aK (qm_ (by repeat (first|(with_reducible first|exact HB.out|apply qb_|apply qa_|apply qc_)|exact HB.out)) hb);have n1_:=aK (hbox);have n2_:=aK ((by rw [hg];exact (qk_ (by repeat (first|(with_reducible first|exact HB.out|apply qb_|apply qa_|apply qc_)|exact HB.out))):w.heap.size≤gb130));have n3_:=aK ((by rw [hg];exact (qk_ (by repeat (first|(with_reducible first|exact HB.out|apply qb_|apply qa_|apply qc_)|exact HB.out))):w.heap.size≤gb130));clear HB;have HB:=n0_;have BK130:=n1_;have GW130:=n2_;have GE130:=n3_;clear n0_ n1_ n2_ n3_;clear hb hbox hg)|((with_reducible refine qz_ (N:=2) rfl ?_);refine qv_ ?hg (N:=2) ?hd (cs:=#[.int .i64 0,.int .i64 0]) (t:=77) ?hr ?_;(case hd=>rfl);(case hg=>rfl);(case hr=>first|(go_simp;done)|(go_simp;rfl));intro gb131 hg w3 hbox hb;have n0_:=aK (ql_ (g:=gb130) (o:=.cells #[.int .i64 a0_0,.int .i64 a0_1] 73 (0,0)) (by (with_reducible repeat (first|refine qe_ ?_ _|refine qg_ ?_|refine qd_ ?_ _));exact BK130.out) hb);have n1_:=aK (qm_ (by repeat (first|(with_reducible first|exact HB.out|apply qb_|apply qa_|apply qc_|refine qf_ ?_ GE130.out)|exact HB.out)) hb);have n2_:=aK (hbox);have n3_:=aK ((by rw [hg];exact (qk_ (by repeat (first|(with_reducible first|exact HB.out|apply qb_|apply qa_|apply qc_|refine qf_ ?_ GE130.out)|exact HB.out))):w.heap.size≤gb131));have n4_:=aK ((by rw [hg];exact (qk_ (by repeat (first|(with_reducible first|exact HB.out|apply qb_|apply qa_|apply qc_|refine qf_ ?_ GE130.out)|exact HB.out))):w.heap.size≤gb131));have n5_:=aK ((by rw [hg];exact Nat.ne_of_lt (blk_lt (g:=gb130) (o:=.cells #[.int .i64 a0_0,.int .i64 a0_1] 73 (0,0)) (by (with_reducible repeat (first|refine qe_ ?_ _|refine qg_ ?_|refine qd_ ?_ _));exact BK130.out)):gb130 ≠ gb131));have n6_:=aK ((by rw [hg];exact Nat.ne_of_gt (blk_lt (g:=gb130) (o:=.cells #[.int .i64 a0_0,.int .i64 a0_1] 73 (0,0)) (by (with_reducible repeat (first|refine qe_ ?_ _|refine qg_ ?_|refine qd_ ?_ _));exact BK130.out)):gb131 ≠ gb130));clear BK130;clear HB;have BK130:=n0_;have HB:=n1_;have BK131:=n2_;have GW131:=n3_;have GE131:=n4_;have NB130_131:=n5_;have NB131_130:=n6_;clear n0_ n1_ n2_ n3_ n4_ n5_ n6_;clear hb hbox hg)|((with_reducible refine qz_ (N:=3) rfl ?_);refine qv_ ?hg (N:=3) ?hd (cs:=#[.int .i64 0,.int .i64 0]) (t:=77) ?hr ?_;(case hd=>rfl);(case hg=>rfl);(case hr=>first|(go_simp;done)|(go_simp;rfl));intro gb132 hg w4 hbox hb;have n0_:=aK (ql_ (g:=gb130) (o:=.cells #[.int .i64 a0_0,.int .i64 a0_1] 73 (0,0)) (by (with_reducible repeat (first|refine qe_ ?_ _|refine qg_ ?_|refine qd_ ?_ _));exact BK130.out) hb);have n1_:=aK (ql_ (g:=gb131) (o:=.cells #[.int .i64 0,.int .i64 0] 77 (0,0)) (by (with_reducible repeat (first|refine qe_ ?_ _|refine qg_ ?_|refine qd_ ?_ _));exact BK131.out) hb);have n2_:=aK (qm_ (by repeat (first|(with_reducible first|exact HB.out|apply qb_|apply qa_|apply qc_|refine qf_ ?_ GE130.out|refine qf_ ?_ GE131.out)|exact HB.out)) hb);have n3_:=aK (hbox);have n4_:=aK ((by rw [hg];exact (qk_ (by repeat (first|(with_reducible first|exact HB.out|apply qb_|apply qa_|apply qc_|refine qf_ ?_ GE130.out|refine qf_ ?_ GE131.out)|exact HB.out))):w.heap.size≤gb132));have n5_:=aK ((by rw [hg];exact (qk_ (by repeat (first|(with_reducible first|exact HB.out|apply qb_|apply qa_|apply qc_|refine qf_ ?_ GE130.out|refine qf_ ?_ GE131.out)|exact HB.out))):w.heap.size≤gb132));have n6_:=aK ((by rw [hg];exact Nat.ne_of_lt (blk_lt (g:=gb130) (o:=.cells #[.int .i64 a0_0,.int .i64 a0_1] 73 (0,0)) (by (with_reducible repeat (first|refine qe_ ?_ _|refine qg_ ?_|refine qd_ ?_ _));exact BK130.out)):gb130 ≠ gb132));have n7_:=aK ((by rw [hg];exact Nat.ne_of_gt (blk_lt (g:=gb130) (o:=.cells #[.int .i64 a0_0,.int .i64 a0_1] 73 (0,0)) (by (with_reducible repeat (first|refine qe_ ?_ _|refine qg_ ?_|refine qd_ ?_ _));exact BK130.out)):gb132 ≠ gb130));have n8_:=aK ((by rw [hg];exact Nat.ne_of_lt (blk_lt (g:=gb131) (o:=.cells #[.int .i64 0,.int .i64 0] 77 (0,0)) (by (with_reducible repeat (first|refine qe_ ?_ _|refine qg_ ?_|refine qd_ ?_ _));exact BK131.out)):gb131 ≠ gb132));have n9_:=aK ((by rw [hg];exact Nat.ne_of_gt (blk_lt (g:=gb131) (o:=.cells #[.int .i64 0,.int .i64 0] 77 (0,0)) (by (with_reducible repeat (first|refine qe_ ?_ _|refine qg_ ?_|refine qd_ ?_ _));exact BK131.out)):gb132 ≠ gb131));clear BK130;clear BK131;clear HB;have BK130:=n0_;have BK131:=n1_;have HB:=n2_;have BK132:=n3_;have GW132:=n4_;have GE132:=n5_;have NB130_132:=n6_;have NB132_130:=n7_;have NB131_132:=n8_;have NB132_131:=n9_;clear n0_ n1_ n2_ n3_ n4_ n5_ n6_ n7_ n8_ n9_;clear hb hbox hg;have hnb5:=NB130_131.out;have hnc5:=NB131_130.out;have hnb6:=NB130_132.out;have hnc6:=NB132_130.out;have hcz7_0:w4.cell? ⟨gb130,0,none⟩=some (.int .i64 a0_0):=(qi_ BK130.out 0).trans rfl;have hcz7_1:w4.cell? ⟨gb130,1,none⟩=some (.int .i64 a0_1):=(qi_ BK130.out 1).trans rfl;have hfz7_0:=qh_ BK130.out 0;have hfz7_1:=qh_ BK130.out 1;have hnb8:=NB132_131.out;have hnc8:=NB131_132.out;have hcz9_0:w4.cell? ⟨gb132,0,none⟩=some (.int .i64 0):=(qi_ BK132.out 0).trans rfl;have hcz9_1:w4.cell? ⟨gb132,1,none⟩=some (.int .i64 0):=(qi_ BK132.out 1).trans rfl;have hfz9_0:=qh_ BK132.out 0;have hfz9_1:=qh_ BK132.out 1;have hcz10_0:w4.cell? ⟨gb131,0,none⟩=some (.int .i64 0):=(qi_ BK131.out 0).trans rfl;have hcz10_1:w4.cell? ⟨gb131,1,none⟩=some (.int .i64 0):=(qi_ BK131.out 1).trans rfl;have hfz10_0:=qh_ BK131.out 0;have hfz10_1:=qh_ BK131.out 1))
 refine bodyPost_ret (results_cell_row rfl _ _ gb131 77 #[.int .i64 a0_0,.int .i64 a0_1] (0,0) _ rfl (by (with_reducible repeat (first|refine qe_ ?_ _|refine qg_ ?_|refine qd_ ?_ _));refine qy_ (cs:=#[.int .i64 a0_0,.int .i64 0]) ?_ 1 _ rfl;(with_reducible repeat (first|refine qe_ ?_ _|refine qg_ ?_|refine qd_ ?_ _));refine qy_ (cs:=#[.int .i64 0,.int .i64 0]) ?_ 0 _ rfl;(with_reducible repeat (first|refine qe_ ?_ _|refine qg_ ?_|refine qd_ ?_ _));refine qa1_ ?_ NB131_132.out _;(with_reducible repeat (first|refine qe_ ?_ _|refine qg_ ?_|refine qd_ ?_ _));refine qa1_ ?_ NB131_132.out _;(with_reducible repeat (first|refine qe_ ?_ _|refine qg_ ?_|refine qd_ ?_ _));exact BK131.out) Try.underlying77 rfl (by kernel_rfl)) rfl ?_
 exact ⟨by first|rfl|(simp [qn_,qo_] <;> rfl)|(simp [*,qn_,qo_] <;> rfl),by repeat (first|(with_reducible first|exact HB.out|apply qb_|apply qa_|apply qc_|refine qf_ ?_ GE130.out|refine qf_ ?_ GE131.out|refine qf_ ?_ GE132.out)|exact HB.out)⟩
end Go.Proofs.Ytaiefdhenikiiaa.Base
namespace Go.Proofs.Ytaiefdhenikiiaa.Base
open Go.RowKit Go.Proofs.YtaiefdhenikiiaaW.PrintWords Go.Proofs.YtaiefdhenikiiaaW.PrintLast Go.Proofs.YtaiefdhenikiiaaW.PrintMore
attribute [local go_sem] max2_int qv1_ max_two min_two max_three min_three max_four min_four Go.Proofs.YtaiefdhenikiiaaZ.qe1_   -- for this text's walks alone
set_option linter.unusedVariables false
set_option linter.unusedSimpArgs false
def laws_toTerm.f (a0_0:ByteArray) (a0_1:Int) (a0_2:Int):Option (ByteArray × Int × Int):=(qz2_.f a0_1 a0_2).bind fun bt136=>(some (a0_0,bt136.1,bt136.2))
set_option maxHeartbeats 8000000 in
set_option maxRecDepth 100000 in
theorem laws_toTerm.calls (a0_0:ByteArray) (a0_1:Int) (a0_2:Int) (r1:ByteArray) (r2:Int) (r3:Int) (w:World) (h:laws_toTerm.f a0_0 a0_1 a0_2=some (r1,r2,r3)) :
  Calls Try.prog 77 #[.agg #[.string a0_0,.int .i64 a0_1,.int .i64 a0_2]] w fun e w'=>e=.returned (.agg #[.string r1,.int .i64 r2,.int .i64 r3])∧Below w.heap.size w w':=by
 have hu75:=Try.underlying75
 have hu79:=Try.underlying79
 have hu73:=Try.underlying73
 have hu77:=Try.underlying77
 have HB:=aK (Below.refl w.heap.size w)
 have H:((qz2_.f a0_1 a0_2).bind fun bt136=>(some (a0_0,bt136.1,bt136.2)))=some (r1,r2,r3):=h
 clear h
 replace H:=Option.bind_eq_some_iff.mp H
 obtain ⟨⟨t136,t137⟩,A20,H⟩:=H
 replace H:(some (a0_0,t136,t137))=some (r1,r2,r3):=H
 have A2:=aK A20
 clear A20
 simp only [Option.some.injEq,Prod.mk.injEq] at H
 obtain ⟨rfl,rfl,rfl⟩:=H
 go_enter Try.func77,Try.ntmps77
 go_wp2_with (first|((with_reducible refine qz_ (N:=1) rfl ?_);refine qv_ ?hg (N:=1) ?hd (cs:=#[.string a0_0,.int .i64 a0_1,.int .i64 a0_2]) (t:=75) ?hr ?_;(case hd=>rfl);(case hg=>rfl);(case hr=>first|(go_simp;done)|(go_simp;rfl));intro gb133 hg w3 hbox hb;have n0_:=aK (qm_ (by repeat (first|(with_reducible first|exact HB.out|apply qb_|apply qa_|apply qc_)|exact HB.out)) hb);have n1_:=aK (hbox);have n2_:=aK ((by rw [hg];exact (qk_ (by repeat (first|(with_reducible first|exact HB.out|apply qb_|apply qa_|apply qc_)|exact HB.out))):w.heap.size≤gb133));have n3_:=aK ((by rw [hg];exact (qk_ (by repeat (first|(with_reducible first|exact HB.out|apply qb_|apply qa_|apply qc_)|exact HB.out))):w.heap.size≤gb133));clear HB;have HB:=n0_;have BK133:=n1_;have GW133:=n2_;have GE133:=n3_;clear n0_ n1_ n2_ n3_;clear hb hbox hg)|((with_reducible refine qz_ (N:=2) rfl ?_);refine qv_ ?hg (N:=2) ?hd (cs:=#[.string (⟨#[]⟩:ByteArray),.int .i64 0,.int .i64 0]) (t:=79) ?hr ?_;(case hd=>rfl);(case hg=>rfl);(case hr=>first|(go_simp;done)|(go_simp;rfl));intro gb134 hg w4 hbox hb;have n0_:=aK (ql_ (g:=gb133) (o:=.cells #[.string a0_0,.int .i64 a0_1,.int .i64 a0_2] 75 (0,0)) (by (with_reducible repeat (first|refine qe_ ?_ _|refine qg_ ?_|refine qd_ ?_ _));exact BK133.out) hb);have n1_:=aK (qm_ (by repeat (first|(with_reducible first|exact HB.out|apply qb_|apply qa_|apply qc_|refine qf_ ?_ GE133.out)|exact HB.out)) hb);have n2_:=aK (hbox);have n3_:=aK ((by rw [hg];exact (qk_ (by repeat (first|(with_reducible first|exact HB.out|apply qb_|apply qa_|apply qc_|refine qf_ ?_ GE133.out)|exact HB.out))):w.heap.size≤gb134));have n4_:=aK ((by rw [hg];exact (qk_ (by repeat (first|(with_reducible first|exact HB.out|apply qb_|apply qa_|apply qc_|refine qf_ ?_ GE133.out)|exact HB.out))):w.heap.size≤gb134));have n5_:=aK ((by rw [hg];exact Nat.ne_of_lt (blk_lt (g:=gb133) (o:=.cells #[.string a0_0,.int .i64 a0_1,.int .i64 a0_2] 75 (0,0)) (by (with_reducible repeat (first|refine qe_ ?_ _|refine qg_ ?_|refine qd_ ?_ _));exact BK133.out)):gb133 ≠ gb134));have n6_:=aK ((by rw [hg];exact Nat.ne_of_gt (blk_lt (g:=gb133) (o:=.cells #[.string a0_0,.int .i64 a0_1,.int .i64 a0_2] 75 (0,0)) (by (with_reducible repeat (first|refine qe_ ?_ _|refine qg_ ?_|refine qd_ ?_ _));exact BK133.out)):gb134 ≠ gb133));clear BK133;clear HB;have BK133:=n0_;have HB:=n1_;have BK134:=n2_;have GW134:=n3_;have GE134:=n4_;have NB133_134:=n5_;have NB134_133:=n6_;clear n0_ n1_ n2_ n3_ n4_ n5_ n6_;clear hb hbox hg)|((with_reducible refine qz_ (N:=3) rfl ?_);refine qv_ ?hg (N:=3) ?hd (cs:=#[.string (⟨#[]⟩:ByteArray),.int .i64 0,.int .i64 0]) (t:=79) ?hr ?_;(case hd=>rfl);(case hg=>rfl);(case hr=>first|(go_simp;done)|(go_simp;rfl));intro gb135 hg w5 hbox hb;have n0_:=aK (ql_ (g:=gb133) (o:=.cells #[.string a0_0,.int .i64 a0_1,.int .i64 a0_2] 75 (0,0)) (by (with_reducible repeat (first|refine qe_ ?_ _|refine qg_ ?_|refine qd_ ?_ _));exact BK133.out) hb);have n1_:=aK (ql_ (g:=gb134) (o:=.cells #[.string (⟨#[]⟩:ByteArray),.int .i64 0,.int .i64 0] 79 (0,0)) (by (with_reducible repeat (first|refine qe_ ?_ _|refine qg_ ?_|refine qd_ ?_ _));exact BK134.out) hb);have n2_:=aK (qm_ (by repeat (first|(with_reducible first|exact HB.out|apply qb_|apply qa_|apply qc_|refine qf_ ?_ GE133.out|refine qf_ ?_ GE134.out)|exact HB.out)) hb);have n3_:=aK (hbox);have n4_:=aK ((by rw [hg];exact (qk_ (by repeat (first|(with_reducible first|exact HB.out|apply qb_|apply qa_|apply qc_|refine qf_ ?_ GE133.out|refine qf_ ?_ GE134.out)|exact HB.out))):w.heap.size≤gb135));have n5_:=aK ((by rw [hg];exact (qk_ (by repeat (first|(with_reducible first|exact HB.out|apply qb_|apply qa_|apply qc_|refine qf_ ?_ GE133.out|refine qf_ ?_ GE134.out)|exact HB.out))):w.heap.size≤gb135));have n6_:=aK ((by rw [hg];exact Nat.ne_of_lt (blk_lt (g:=gb133) (o:=.cells #[.string a0_0,.int .i64 a0_1,.int .i64 a0_2] 75 (0,0)) (by (with_reducible repeat (first|refine qe_ ?_ _|refine qg_ ?_|refine qd_ ?_ _));exact BK133.out)):gb133 ≠ gb135));have n7_:=aK ((by rw [hg];exact Nat.ne_of_gt (blk_lt (g:=gb133) (o:=.cells #[.string a0_0,.int .i64 a0_1,.int .i64 a0_2] 75 (0,0)) (by (with_reducible repeat (first|refine qe_ ?_ _|refine qg_ ?_|refine qd_ ?_ _));exact BK133.out)):gb135 ≠ gb133));have n8_:=aK ((by rw [hg];exact Nat.ne_of_lt (blk_lt (g:=gb134) (o:=.cells #[.string (⟨#[]⟩:ByteArray),.int .i64 0,.int .i64 0] 79 (0,0)) (by (with_reducible repeat (first|refine qe_ ?_ _|refine qg_ ?_|refine qd_ ?_ _));exact BK134.out)):gb134 ≠ gb135));have n9_:=aK ((by rw [hg];exact Nat.ne_of_gt (blk_lt (g:=gb134) (o:=.cells #[.string (⟨#[]⟩:ByteArray),.int .i64 0,.int .i64 0] 79 (0,0)) (by (with_reducible repeat (first|refine qe_ ?_ _|refine qg_ ?_|refine qd_ ?_ _));exact BK134.out)):gb135 ≠ gb134));clear BK133;clear BK134;clear HB;have BK133:=n0_;have BK134:=n1_;have HB:=n2_;have BK135:=n3_;have GW135:=n4_;have GE135:=n5_;have NB133_135:=n6_;have NB135_133:=n7_;have NB134_135:=n8_;have NB135_134:=n9_;clear n0_ n1_ n2_ n3_ n4_ n5_ n6_ n7_ n8_ n9_;clear hb hbox hg;have hnb6:=NB133_134.out;have hnc6:=NB134_133.out;have hnb7:=NB133_135.out;have hnc7:=NB135_133.out;have hcz8_0:w5.cell? ⟨gb133,0,none⟩=some (.string a0_0):=(qi_ BK133.out 0).trans rfl;have hcz8_1:w5.cell? ⟨gb133,1,none⟩=some (.int .i64 a0_1):=(qi_ BK133.out 1).trans rfl;have hcz8_2:w5.cell? ⟨gb133,2,none⟩=some (.int .i64 a0_2):=(qi_ BK133.out 2).trans rfl;have hfz8_0:=qh_ BK133.out 0;have hfz8_1:=qh_ BK133.out 1;have hfz8_2:=qh_ BK133.out 2;have hnb9:=NB135_134.out;have hnc9:=NB134_135.out;have hcz10_0:w5.cell? ⟨gb135,0,none⟩=some (.string (⟨#[]⟩:ByteArray)):=(qi_ BK135.out 0).trans rfl;have hcz10_1:w5.cell? ⟨gb135,1,none⟩=some (.int .i64 0):=(qi_ BK135.out 1).trans rfl;have hcz10_2:w5.cell? ⟨gb135,2,none⟩=some (.int .i64 0):=(qi_ BK135.out 2).trans rfl;have hfz10_0:=qh_ BK135.out 0;have hfz10_1:=qh_ BK135.out 1;have hfz10_2:=qh_ BK135.out 2)|((with_reducible refine qt_ (f:=153) rfl ?_);refine goesL_ (some 9) rfl rfl Try.func153 (by kernel_rfl) rfl #[.agg #[.int .i64 a0_1,.int .i64 a0_2]] rfl (by (try simp only [List.map_toArray,List.map_cons,List.map_nil]);first|done|rfl|(simp only [List.length_drop,List.length_take];rfl)) ?_;(with_reducible refine (qz2_.calls a0_1 a0_2 t136 t137 _ A2.out).mono ?_);rintro e w11 ⟨rfl,hb⟩;refine ⟨_,rfl,?_⟩;have n0_:=aK (ql_ (g:=gb133) (o:=.cells #[.string a0_0,.int .i64 a0_1,.int .i64 a0_2] 75 (0,0)) (by (with_reducible repeat (first|refine qe_ ?_ _|refine qg_ ?_|refine qd_ ?_ _));refine qa1_ ?_ NB133_135.out _;(with_reducible repeat (first|refine qe_ ?_ _|refine qg_ ?_|refine qd_ ?_ _));exact BK133.out) hb);have n1_:=aK (ql_ (g:=gb134) (o:=.cells #[.string (⟨#[]⟩:ByteArray),.int .i64 0,.int .i64 0] 79 (0,0)) (by (with_reducible repeat (first|refine qe_ ?_ _|refine qg_ ?_|refine qd_ ?_ _));refine qa1_ ?_ NB134_135.out _;(with_reducible repeat (first|refine qe_ ?_ _|refine qg_ ?_|refine qd_ ?_ _));exact BK134.out) hb);have n2_:=aK (ql_ (g:=gb135) (o:=.cells #[.string a0_0,.int .i64 0,.int .i64 0] 79 (0,0)) (by (with_reducible repeat (first|refine qe_ ?_ _|refine qg_ ?_|refine qd_ ?_ _));refine qy_ (cs:=#[.string (⟨#[]⟩:ByteArray),.int .i64 0,.int .i64 0]) ?_ 0 _ rfl;(with_reducible repeat (first|refine qe_ ?_ _|refine qg_ ?_|refine qd_ ?_ _));exact BK135.out) hb);have n3_:=aK (qm_ (by repeat (first|(with_reducible first|exact HB.out|apply qb_|apply qa_|apply qc_|refine qf_ ?_ GE133.out|refine qf_ ?_ GE134.out|refine qf_ ?_ GE135.out)|exact HB.out)) hb);clear BK133;clear BK134;clear BK135;clear HB;have BK133:=n0_;have BK134:=n1_;have BK135:=n2_;have HB:=n3_;clear n0_ n1_ n2_ n3_;(try clear hb);(try clear hb2);(try clear hk);(try clear hi);have hcz12_0:w11.cell? ⟨gb135,0,none⟩=some (.string a0_0):=(qi_ BK135.out 0).trans rfl;have hcz12_1:w11.cell? ⟨gb135,1,none⟩=some (.int .i64 0):=(qi_ BK135.out 1).trans rfl;have hcz12_2:w11.cell? ⟨gb135,2,none⟩=some (.int .i64 0):=(qi_ BK135.out 2).trans rfl;have hfz12_0:=qh_ BK135.out 0;have hfz12_1:=qh_ BK135.out 1;have hfz12_2:=qh_ BK135.out 2;have hcz13_0:w11.cell? ⟨gb134,0,none⟩=some (.string (⟨#[]⟩:ByteArray)):=(qi_ BK134.out 0).trans rfl;have hcz13_1:w11.cell? ⟨gb134,1,none⟩=some (.int .i64 0):=(qi_ BK134.out 1).trans rfl;have hcz13_2:w11.cell? ⟨gb134,2,none⟩=some (.int .i64 0):=(qi_ BK134.out 2).trans rfl;have hfz13_0:=qh_ BK134.out 0;have hfz13_1:=qh_ BK134.out 1;have hfz13_2:=qh_ BK134.out 2))
 refine bodyPost_ret (results_cell_row rfl _ _ gb134 79 #[.string a0_0,.int .i64 t136,.int .i64 t137] (0,0) _ rfl (by (with_reducible repeat (first|refine qe_ ?_ _|refine qg_ ?_|refine qd_ ?_ _));refine qy_ (cs:=#[.string a0_0,.int .i64 t136,.int .i64 0]) ?_ 2 _ rfl;(with_reducible repeat (first|refine qe_ ?_ _|refine qg_ ?_|refine qd_ ?_ _));refine qy_ (cs:=#[.string a0_0,.int .i64 0,.int .i64 0]) ?_ 1 _ rfl;(with_reducible repeat (first|refine qe_ ?_ _|refine qg_ ?_|refine qd_ ?_ _));refine qy_ (cs:=#[.string (⟨#[]⟩:ByteArray),.int .i64 0,.int .i64 0]) ?_ 0 _ rfl;(with_reducible repeat (first|refine qe_ ?_ _|refine qg_ ?_|refine qd_ ?_ _));refine qa1_ ?_ NB134_135.out _;(with_reducible repeat (first|refine qe_ ?_ _|refine qg_ ?_|refine qd_ ?_ _));refine qa1_ ?_ NB134_135.out _;(with_reducible repeat (first|refine qe_ ?_ _|refine qg_ ?_|refine qd_ ?_ _));exact BK134.out) Try.underlying79 rfl (by kernel_rfl)) rfl ?_
 exact ⟨by first|rfl|(simp [qn_,qo_] <;> rfl)|(simp [*,qn_,qo_] <;> rfl),by repeat (first|(with_reducible first|exact HB.out|apply qb_|apply qa_|apply qc_|refine qf_ ?_ GE133.out|refine qf_ ?_ GE134.out|refine qf_ ?_ GE135.out)|exact HB.out)⟩
end Go.Proofs.Ytaiefdhenikiiaa.Base
namespace Go.Proofs.Ytaiefdhenikiiaa.Base
open Go.RowKit Go.Proofs.YtaiefdhenikiiaaW.PrintWords Go.Proofs.YtaiefdhenikiiaaW.PrintLast Go.Proofs.YtaiefdhenikiiaaW.PrintMore
attribute [local go_sem] max2_int qv1_ max_two min_two max_three min_three max_four min_four Go.Proofs.YtaiefdhenikiiaaZ.qe1_   -- for this text's walks alone
set_option linter.unusedVariables false
set_option linter.unusedSimpArgs false
def qs1_.l0:Nat→List (S75)→List (S79)→Int→Option ((List (S79)))
 | 0,_,_,_=>none
 | k+1,x0,x3,x4=>if x4 < (x0.length:Int) then (if 0≤x4 then ((laws_toTerm.f ((rd_T75 x0 x4).f0) ((rd_T75 x0 x4).f1.f0) ((rd_T75 x0 x4).f1.f1)).bind fun bt142=>(if x4 < (x3.length:Int) then (qs1_.l0 k x0 (x3.set (x4:Int).toNat (⟨bt142.1,(⟨bt142.2.1,bt142.2.2⟩:S77)⟩:S79)) (wrap64 (x4+1))) else (none))) else (none)) else (some x3)
def qs1_.f (k:Nat) (l0:List (S75)):Option ((List (S79))):=if 0≤(l0.length:Int) then (if ((l0.length:Int):Int).toNat≤8796093022208 then (qs1_.l0 k l0 (List.replicate ((l0.length:Int):Int).toNat z79) 0) else (none)) else (none)
theorem qs1_.mono_l:∀ k,(∀ y0 y1 y2,LeO (qs1_.l0 k y0 y1 y2) (qs1_.l0 (k+1) y0 y1 y2))
 | 0=>fun _ _ _ r h=>by simp [qs1_.l0] at h
 | k+1=>by
  have ih0:=qs1_.mono_l k
  ·intro y0 y1 y2
   unfold qs1_.l0
   repeat' first
   | (with_reducible exact ih0 _ _ _)
   | (with_reducible exact LeO.refl _)
   | (with_reducible exact LeO.none _)
   | (with_reducible refine LeO.ite ?_ ?_)
   | (with_reducible refine LeO.bind ?_ (fun _=>?_))
   | exact ih0 _ _ _
   | exact LeO.none _
   | refine LeO.ite ?_ ?_
   | refine LeO.bind ?_ (fun _=>?_)
theorem qs1_.mono:∀ a0 k,LeO (qs1_.f k a0) (qs1_.f (k+1) a0):=by
 intro a0 k
 have ih0:=qs1_.mono_l k
 unfold qs1_.f
 repeat' first
   | (with_reducible exact ih0 _ _ _)
   | (with_reducible exact LeO.refl _)
   | (with_reducible exact LeO.none _)
   | (with_reducible refine LeO.ite ?_ ?_)
   | (with_reducible refine LeO.bind ?_ (fun _=>?_))
   | exact ih0 _ _ _
   | exact LeO.none _
   | refine LeO.ite ?_ ?_
   | refine LeO.bind ?_ (fun _=>?_)
set_option maxHeartbeats 8000000 in
set_option maxRecDepth 100000 in
theorem qs1_.calls (k:Nat) (A0:Option Addr) (c0:Nat) (l0:List (S75)) (r:List (S79)) (w:World) (hr0:Kd.C k75 w A0 l0.length l0) (hc0:l0.length≤c0) (h:qs1_.f k l0=some r) :
  Calls Try.prog 23 #[.slice A0 l0.length c0] w fun e w'=>∃ v0_:Value,e=.returned (v0_)∧Kd.R k79 79 w' w.heap.size (fun _=>True) v0_ r∧Below w.heap.size w w':=by
 have hu75:=Try.underlying75
 have hu79:=Try.underlying79
 have HR0:=aK hr0
 have HC0:=aK hc0
 clear hr0 hc0
 have HB:=aK (Below.refl w.heap.size w)
 have H:(if 0≤(l0.length:Int) then (if ((l0.length:Int):Int).toNat≤8796093022208 then (qs1_.l0 k l0 (List.replicate ((l0.length:Int):Int).toNat z79) 0) else (none)) else (none))=some r:=h
 clear h
 by_cases c2:0≤(l0.length:Int)
 ·rw [if_pos c2] at H
  have c2b0:=eq_true c2
  have c2b1:decide (0≤(l0.length:Int))=true:=decide_eq_true c2
  clear c2
  by_cases c3:((l0.length:Int):Int).toNat≤8796093022208
  ·rw [if_pos c3] at H
   have c3b0:=eq_true c3
   have c3b1:decide (((l0.length:Int):Int).toNat≤8796093022208)=true:=decide_eq_true c3
   clear c3
   obtain ⟨y138,hy138⟩:∃ y_:List (S79),y_=(List.replicate ((l0.length:Int):Int).toNat z79):=⟨_,rfl⟩
   replace H:(qs1_.l0 k l0 y138 0)=some r:=by first|(rw [hy138];with_reducible exact H)|(have H2_:=(Option.bind_some _ _).symm.trans H;rw [hy138];with_reducible exact H2_)|(have H2_:=(Option.bind_some _ _).symm.trans H;with_reducible exact H2_)|with_reducible exact H|(rw [hy138];exact H)|exact H
   have Ny138:=aK hy138
   clear hy138
   have H':=aK H
   clear H
   go_enter Try.func23,Try.ntmps23
   go_wp2_with (first|((with_reducible refine qz_ (N:=7) rfl ?_);refine Kd.R_make k79 _ 79 rfl (N:=7) rfl 24 _ _ rfl (l0.length:Int) rfl rfl Try.underlying24 (.agg #[(.string ⟨#[]⟩),(.int .i64 0),(.int .i64 0)]) 32 info79 rfl (by decide) (by omega) z79 (ok:=fun _=>True) (okp:=fun _=>True) (k79_mkM _ _ _ z79 ) (fun _ hk=>hk) trivial (of_decide_eq_true (by first|(with_reducible assumption)|assumption)) (Nat.le_trans (Nat.mul_le_mul_right _ (of_decide_eq_true (by first|(with_reducible assumption)|assumption):(l0.length:Int).toNat≤8796093022208)) (by omega)) (Below.refl _ _) (Nat.le_refl _) ?_;intro v139 w4 ho5 hb hg_ hnew_;clear hg_ hnew_;(first|rw [← Ny138.out] at ho5|(simp only [Int.reduceToNat] at ho5;rw [← Ny138.out] at ho5));have n0_:=aK (Kd.qt2_ ho5 (qk_ (by repeat (first|(with_reducible first|exact HB.out|apply qb_|apply qa_|apply qc_)|exact HB.out))));have n1_:=aK (qm_ (by repeat (first|(with_reducible first|exact HB.out|apply qb_|apply qa_|apply qc_)|exact HB.out)) hb);clear HB;have HO140:=n0_;have HB:=n1_;clear n0_ n1_;clear hb ho5))
   go_loopg [4] k (fun kq v4 w'=>∃ (x3_1:List (S79)) (x4_1:Int),v4=.int .i64 x4_1∧Aside0 (qs1_.l0 kq l0 x3_1 x4_1=some r)∧Aside0 (kq≤k)∧Aside0 (Kd.R k79 79 w' w.heap.size (fun _=>True) v139 x3_1)∧Aside0 (Below w.heap.size w w'))
   case atStart=>exact ⟨(y138),(0),(by first|rfl|(simp;done)|(simp [*];done)),H',⟨Nat.le_refl _⟩,⟨by (with_reducible repeat (first|apply Kd.qq_|apply Kd.qr_|apply Kd.R_drew));exact HO140.out⟩,⟨by repeat (first|(with_reducible first|exact HB.out|apply qb_|apply qa_|apply qc_)|exact HB.out)⟩⟩
   case round =>
    clear H'
    try clear c2
    try clear c2b0
    try clear c2b1
    try clear p2
    try clear c3
    try clear c3b0
    try clear c3b1
    obtain ⟨x3_1,x4_1,rfl,HA,HK1,HO_3,HB⟩:=hrel
    cases gk with
    | zero=>exact absurd HA.out (by simp [qs1_.l0])
    | succ k1 =>
     have H:=HA.out
     clear HA
     simp only [qs1_.l0] at H
     by_cases c6:x4_1 < (l0.length:Int)
     ·rw [if_pos c6] at H
      have c6b0:decide (x4_1 < (l0.length:Int))=true:=decide_eq_true c6
      clear c6
      by_cases c7:0≤x4_1
      ·rw [if_pos c7] at H
       have c7b0:decide (0≤x4_1)=true:=decide_eq_true c7
       clear c7
       replace H:=Option.bind_eq_some_iff.mp H
       obtain ⟨⟨t142,t143,t144⟩,A80,H⟩:=H
       replace H:(if x4_1 < (x3_1.length:Int) then (qs1_.l0 k1 l0 (x3_1.set (x4_1:Int).toNat (⟨t142,(⟨t143,t144⟩:S77)⟩:S79)) (wrap64 (x4_1+1))) else (none))=some r:=H
       have A8:=aK A80
       clear A80
       by_cases c9:x4_1 < (x3_1.length:Int)
       ·rw [if_pos c9] at H
        have c9b0:decide (x4_1 < (x3_1.length:Int))=true:=decide_eq_true c9
        clear c9
        obtain ⟨y145,hy145⟩:∃ y_:List (S79),y_=(x3_1.set (x4_1:Int).toNat (⟨t142,(⟨t143,t144⟩:S77)⟩:S79)):=⟨_,rfl⟩
        replace H:(qs1_.l0 k1 l0 y145 (wrap64 (x4_1+1)))=some r:=by first|(rw [hy145];with_reducible exact H)|(have H2_:=(Option.bind_some _ _).symm.trans H;rw [hy145];with_reducible exact H2_)|(have H2_:=(Option.bind_some _ _).symm.trans H;with_reducible exact H2_)|with_reducible exact H|(rw [hy145];exact H)|exact H
        have Ny145:=aK hy145
        clear hy145
        have H':=aK H
        clear H
        have p141:0≤(x4_1:Int):=of_decide_eq_true (by first|(with_reducible assumption)|assumption)
        have q141:x4_1 < (l0.length:Int):=of_decide_eq_true (by first|(with_reducible assumption)|assumption)
        obtain ⟨ad141,e141,hx141_0,hx141_1,hx141_2⟩:=at_T75 HR0.out x4_1 p141 q141
        cases e141
        replace hx141_0:=(HB.out.cell (World.block_lt_of_cell? w _ hx141_0)).trans hx141_0
        replace hx141_1:=(HB.out.cell (World.block_lt_of_cell? w _ hx141_1)).trans hx141_1
        replace hx141_2:=(HB.out.cell (World.block_lt_of_cell? w _ hx141_2)).trans hx141_2
        replace p141:=eq_true p141
        replace q141:=eq_true q141
        go_wp2_with (first|((with_reducible refine qt_ (f:=77) rfl ?_);refine goesL_ (some 20) rfl rfl Try.func77 (by kernel_rfl) rfl #[.agg #[.string ((rd_T75 l0 x4_1).f0),.int .i64 ((rd_T75 l0 x4_1).f1.f0),.int .i64 ((rd_T75 l0 x4_1).f1.f1)]] rfl (by (try simp only [List.map_toArray,List.map_cons,List.map_nil]);first|done|rfl|(simp only [List.length_drop,List.length_take];rfl)) ?_;(with_reducible refine (laws_toTerm.calls ((rd_T75 l0 x4_1).f0) ((rd_T75 l0 x4_1).f1.f0) ((rd_T75 l0 x4_1).f1.f1) t142 t143 t144 _ A8.out).mono ?_);rintro e w11 ⟨rfl,hb⟩;refine ⟨_,rfl,?_⟩;have n0_:=aK (Kd.qj1_ (by (with_reducible repeat (first|apply Kd.qq_|apply Kd.qr_|apply Kd.R_drew));exact HO_3.out) hb);have n1_:=aK (qm_ (by repeat (first|(with_reducible first|exact HB.out|apply qb_|apply qa_|apply qc_)|exact HB.out)) hb);clear HO_3;clear HB;have HO_3:=n0_;have HB:=n1_;clear n0_ n1_;(try clear hb);(try clear hb2);(try clear hk);(try clear hi);have p10:0≤(x4_1:Int):=of_decide_eq_true (by first|(with_reducible assumption)|assumption);have q10:(x4_1:Int) < ((x3_1.length:Int):Int):=of_decide_eq_true (by first|(with_reducible assumption)|assumption);obtain ⟨go10,co10,eo10,gb10,gl10,cl10,HG10⟩:=Kd.R_form HO_3.out (by omega);(first|cases eo10|(injection eo10 with ea_ en_ ec_;(first|subst ea_|(injection ea_ with ea_;subst ea_));subst ec_;clear en_));have GB10:=aK gb10;have GG10:=aK HG10;clear gb10 gl10 HG10;obtain ⟨ce10,hcl10,hM10,hcc10,hfr10⟩:=Kd.R_elem HO_3.out z79 (x4_1:Int) p10 q10;obtain rfl:=k79_openM hM10;have hx10_0:w11.cell? ⟨go10,(x4_1:Int).toNat * 3,none⟩=some (.string ((rd_T79 x3_1 x4_1).f0)):=hcc10 0 _ rfl;have hx10_1:w11.cell? ⟨go10,(x4_1:Int).toNat * 3+1,none⟩=some (.int .i64 ((rd_T79 x3_1 x4_1).f1.f0)):=hcc10 1 _ rfl;have hx10_2:w11.cell? ⟨go10,(x4_1:Int).toNat * 3+2,none⟩=some (.int .i64 ((rd_T79 x3_1 x4_1).f1.f1)):=hcc10 2 _ rfl;have hf10_0:w11.frozen? ⟨go10,(x4_1:Int).toNat * 3,none⟩=false:=hfr10 0;have hf10_1:w11.frozen? ⟨go10,(x4_1:Int).toNat * 3+1,none⟩=false:=hfr10 1;have hf10_2:w11.frozen? ⟨go10,(x4_1:Int).toNat * 3+2,none⟩=false:=hfr10 2;(try clear hcl10);(try clear hcc10);(try clear hfr10);(try clear hM10);replace p10:=eq_true p10;replace q10:=eq_true q10;have HX12:=aK (show Kd.R k79 79 w11 w.heap.size (fun _=>True) (.slice (some ⟨go10,0,none⟩) x3_1.length co10) x3_1 from (by (with_reducible repeat (first|apply Kd.qq_|apply Kd.qr_|apply Kd.R_drew));exact HO_3.out));obtain ⟨ce12,hcl12,hM12,hcc12,hfr12⟩:=Kd.R_elem HX12.out z79 (x4_1:Int) (of_decide_eq_true (by first|(with_reducible assumption)|assumption)) (by have h_:(x4_1:Int) < ((x3_1.length:Int):Int):=of_decide_eq_true (by first|(with_reducible assumption)|assumption);first|exact h_|(have e_:=(Kd.qp1_ HO_3.out).1;omega)|simpa using h_);obtain rfl:=k79_openM hM12;have HP12:=Kd.R_seg HX12.out (x4_1:Int) (of_decide_eq_true (by first|(with_reducible assumption)|assumption)) (by have h_:(x4_1:Int) < ((x3_1.length:Int):Int):=of_decide_eq_true (by first|(with_reducible assumption)|assumption);first|exact h_|(have e_:=(Kd.qp1_ HO_3.out).1;omega)|simpa using h_) (seg:=[.string t142,.int .i64 t143,.int .i64 t144]) (j:=0) hcl12 hcc12 (show 3≤3 from by decide) (x':=(⟨t142,(⟨t143,t144⟩:S77)⟩:S79)) (k79_mkM _ _ _ (⟨t142,(⟨t143,t144⟩:S77)⟩:S79) ) (fun _ hk=>hk);have hx12_0:=hcc12 0 _ rfl;(try simp only [show (k79).sz=3 from rfl,Nat.mul_one,Nat.add_zero] at hx12_0);have hf12_0:=hfr12 0;(try simp only [show (k79).sz=3 from rfl,Nat.mul_one,Nat.add_zero] at hf12_0);have hx12_1:=hcc12 1 _ rfl;(try simp only [show (k79).sz=3 from rfl,Nat.mul_one,Nat.add_zero] at hx12_1);have hf12_1:=hfr12 1;(try simp only [show (k79).sz=3 from rfl,Nat.mul_one,Nat.add_zero] at hf12_1);have hx12_2:=hcc12 2 _ rfl;(try simp only [show (k79).sz=3 from rfl,Nat.mul_one,Nat.add_zero] at hx12_2);have hf12_2:=hfr12 2;(try simp only [show (k79).sz=3 from rfl,Nat.mul_one,Nat.add_zero] at hf12_2);(try clear hcl12);(try clear hcc12);(try clear hfr12);(try clear hM12))|((with_reducible refine gate_store (t:=79) (p:=21) rfl ?_);refine store_event (t:=79) (p:=21) (v:=?vo_w13) (w1:=(((w11.setCell ⟨go10,(x4_1:Int).toNat * 3,none⟩ (.string t142)).setCell ⟨go10,(x4_1:Int).toNat * 3+1,none⟩ (.int .i64 t143)).setCell ⟨go10,(x4_1:Int).toNat * 3+2,none⟩ (.int .i64 t144))) ?hg ?ho ?hn ?hr ?_;(case ho=>rfl);(case hg=>rfl);(case hn=>rfl);(case hr=>first|(go_simp;done)|(go_simp;rfl));intro w13 hw;have hg:w11.grownBy w13 (some go10):=(by rw [hw];exact HP12.2);have hp_:Kd.R k79 79 w13 w.heap.size (fun _=>True) (.slice (some ⟨go10,0,none⟩) x3_1.length co10) y145:=(by rw [hw,Ny145.out];exact HP12.1);clear HP12;have n0_:=aK (hp_);have n1_:=aK ((by rw [hw];exact qf_ (qf_ (qf_ (HB.out) GB10.out) GB10.out) GB10.out:Below w.heap.size w w13));clear HO_3;clear HB;have HO_3:=n0_;have HB:=n1_;clear n0_ n1_;clear hg hw hp_))
        go_roundg k1
        case measure=>have:=HK1.out;omega
        case rel=>exact ⟨(y145),(wrap64 (x4_1+1)),(by first|rfl|(simp;done)|(simp [*];done)),H',⟨by have:=HK1.out;omega⟩,⟨by (with_reducible repeat (first|apply Kd.qq_|apply Kd.qr_|apply Kd.R_drew));exact HO_3.out⟩,⟨by repeat (first|(with_reducible first|exact HB.out|apply qb_|apply qa_|apply qc_)|exact HB.out)⟩⟩
       ·rw [if_neg c9] at H
        exact absurd H (by simp)
      ·rw [if_neg c7] at H
       exact absurd H (by simp)
     ·rw [if_neg c6] at H
      have c6b0:decide (x4_1 < (l0.length:Int))=false:=decide_eq_false c6
      clear c6
      obtain rfl:=Option.some.inj H
      go_wp2
      go_ret
      exact ⟨_,by first|rfl|(simp [qn_,qo_] <;> rfl)|(simp [*,qn_,qo_] <;> rfl),by (with_reducible repeat (first|apply Kd.qq_|apply Kd.qr_|apply Kd.R_drew));exact HO_3.out,by repeat (first|(with_reducible first|exact HB.out|apply qb_|apply qa_|apply qc_)|exact HB.out)⟩
  ·rw [if_neg c3] at H
   exact absurd H (by simp)
 ·rw [if_neg c2] at H
  exact absurd H (by simp)
end Go.Proofs.Ytaiefdhenikiiaa.Base
namespace Go.Proofs.Ytaiefdhenikiiaa.Base
open Go.RowKit Go.Proofs.YtaiefdhenikiiaaW.PrintWords Go.Proofs.YtaiefdhenikiiaaW.PrintLast Go.Proofs.YtaiefdhenikiiaaW.PrintMore
attribute [local go_sem] max2_int qv1_ max_two min_two max_three min_three max_four min_four Go.Proofs.YtaiefdhenikiiaaZ.qe1_   -- for this text's walks alone
set_option linter.unusedVariables false
set_option linter.unusedSimpArgs false
def qx2_.f (a0_0:Int) (a0_1:Int) (a1_0:Int) (a1_1:Int):Option (Bool):=if a0_0=a1_0 then (if a0_1=a1_1 then (some true) else (some false)) else (some false)
set_option maxHeartbeats 8000000 in
set_option maxRecDepth 100000 in
theorem qx2_.calls (a0_0:Int) (a0_1:Int) (a1_0:Int) (a1_1:Int) (r:Bool) (w:World) (h:qx2_.f a0_0 a0_1 a1_0 a1_1=some r) :
  Calls Try.prog 157 #[.agg #[.int .i64 a0_0,.int .i64 a0_1],.agg #[.int .i64 a1_0,.int .i64 a1_1]] w fun e w'=>e=.returned (.bool r)∧Below w.heap.size w w':=by
 have hu77:=Try.underlying77
 have HB:=aK (Below.refl w.heap.size w)
 have H:(if a0_0=a1_0 then (if a0_1=a1_1 then (some true) else (some false)) else (some false))=some r:=h
 clear h
 by_cases c3:a0_0=a1_0
 ·rw [if_pos c3] at H
  have c3b0:(a0_0 == a1_0)=true:=beq_iff_eq.mpr c3
  have c3b1:(a0_0 != a1_0)=false:=bne_eq_false_iff_eq.mpr c3
  clear c3
  by_cases c4:a0_1=a1_1
  ·rw [if_pos c4] at H
   have c4b0:(a0_1 == a1_1)=true:=beq_iff_eq.mpr c4
   have c4b1:(a0_1 != a1_1)=false:=bne_eq_false_iff_eq.mpr c4
   clear c4
   obtain rfl:=Option.some.inj H
   go_enter Try.func157,Try.ntmps157
   go_wp2_with (first|((with_reducible refine qz_ (N:=2) rfl ?_);refine qv_ ?hg (N:=2) ?hd (cs:=#[.int .i64 a0_0,.int .i64 a0_1]) (t:=77) ?hr ?_;(case hd=>rfl);(case hg=>rfl);(case hr=>first|(go_simp;done)|(go_simp;rfl));intro gb162 hg w5 hbox hb;have n0_:=aK (qm_ (by repeat (first|(with_reducible first|exact HB.out|apply qb_|apply qa_|apply qc_)|exact HB.out)) hb);have n1_:=aK (hbox);have n2_:=aK ((by rw [hg];exact (qk_ (by repeat (first|(with_reducible first|exact HB.out|apply qb_|apply qa_|apply qc_)|exact HB.out))):w.heap.size≤gb162));have n3_:=aK ((by rw [hg];exact (qk_ (by repeat (first|(with_reducible first|exact HB.out|apply qb_|apply qa_|apply qc_)|exact HB.out))):w.heap.size≤gb162));clear HB;have HB:=n0_;have BK162:=n1_;have GW162:=n2_;have GE162:=n3_;clear n0_ n1_ n2_ n3_;clear hb hbox hg)|((with_reducible refine qz_ (N:=3) rfl ?_);refine qv_ ?hg (N:=3) ?hd (cs:=#[.int .i64 a1_0,.int .i64 a1_1]) (t:=77) ?hr ?_;(case hd=>rfl);(case hg=>rfl);(case hr=>first|(go_simp;done)|(go_simp;rfl));intro gb163 hg w6 hbox hb;have n0_:=aK (ql_ (g:=gb162) (o:=.cells #[.int .i64 a0_0,.int .i64 a0_1] 77 (0,0)) (by (with_reducible repeat (first|refine qe_ ?_ _|refine qg_ ?_|refine qd_ ?_ _));exact BK162.out) hb);have n1_:=aK (qm_ (by repeat (first|(with_reducible first|exact HB.out|apply qb_|apply qa_|apply qc_|refine qf_ ?_ GE162.out)|exact HB.out)) hb);have n2_:=aK (hbox);have n3_:=aK ((by rw [hg];exact (qk_ (by repeat (first|(with_reducible first|exact HB.out|apply qb_|apply qa_|apply qc_|refine qf_ ?_ GE162.out)|exact HB.out))):w.heap.size≤gb163));have n4_:=aK ((by rw [hg];exact (qk_ (by repeat (first|(with_reducible first|exact HB.out|apply qb_|apply qa_|apply qc_|refine qf_ ?_ GE162.out)|exact HB.out))):w.heap.size≤gb163));have n5_:=aK ((by rw [hg];exact Nat.ne_of_lt (blk_lt (g:=gb162) (o:=.cells #[.int .i64 a0_0,.int .i64 a0_1] 77 (0,0)) (by (with_reducible repeat (first|refine qe_ ?_ _|refine qg_ ?_|refine qd_ ?_ _));exact BK162.out)):gb162 ≠ gb163));have n6_:=aK ((by rw [hg];exact Nat.ne_of_gt (blk_lt (g:=gb162) (o:=.cells #[.int .i64 a0_0,.int .i64 a0_1] 77 (0,0)) (by (with_reducible repeat (first|refine qe_ ?_ _|refine qg_ ?_|refine qd_ ?_ _));exact BK162.out)):gb163 ≠ gb162));clear BK162;clear HB;have BK162:=n0_;have HB:=n1_;have BK163:=n2_;have GW163:=n3_;have GE163:=n4_;have NB162_163:=n5_;have NB163_162:=n6_;clear n0_ n1_ n2_ n3_ n4_ n5_ n6_;clear hb hbox hg;have hnb7:=NB162_163.out;have hnc7:=NB163_162.out;have hcz8_0:w6.cell? ⟨gb162,0,none⟩=some (.int .i64 a0_0):=(qi_ BK162.out 0).trans rfl;have hcz8_1:w6.cell? ⟨gb162,1,none⟩=some (.int .i64 a0_1):=(qi_ BK162.out 1).trans rfl;have hfz8_0:=qh_ BK162.out 0;have hfz8_1:=qh_ BK162.out 1;have hcz9_0:w6.cell? ⟨gb163,0,none⟩=some (.int .i64 a1_0):=(qi_ BK163.out 0).trans rfl;have hcz9_1:w6.cell? ⟨gb163,1,none⟩=some (.int .i64 a1_1):=(qi_ BK163.out 1).trans rfl;have hfz9_0:=qh_ BK163.out 0;have hfz9_1:=qh_ BK163.out 1))
   go_ret
   exact ⟨by first|rfl|(simp [qn_,qo_] <;> rfl)|(simp [*,qn_,qo_] <;> rfl),by repeat (first|(with_reducible first|exact HB.out|apply qb_|apply qa_|apply qc_|refine qf_ ?_ GE162.out|refine qf_ ?_ GE163.out)|exact HB.out)⟩
  ·rw [if_neg c4] at H
   have c4b0:(a0_1 == a1_1)=false:=beq_eq_false_iff_ne.mpr c4
   have c4b1:(a0_1 != a1_1)=true:=bne_iff_ne.mpr c4
   obtain rfl:=Option.some.inj H
   go_enter Try.func157,Try.ntmps157
   go_wp2_with (first|((with_reducible refine qz_ (N:=2) rfl ?_);refine qv_ ?hg (N:=2) ?hd (cs:=#[.int .i64 a0_0,.int .i64 a0_1]) (t:=77) ?hr ?_;(case hd=>rfl);(case hg=>rfl);(case hr=>first|(go_simp;done)|(go_simp;rfl));intro gb162 hg w10 hbox hb;have n0_:=aK (qm_ (by repeat (first|(with_reducible first|exact HB.out|apply qb_|apply qa_|apply qc_)|exact HB.out)) hb);have n1_:=aK (hbox);have n2_:=aK ((by rw [hg];exact (qk_ (by repeat (first|(with_reducible first|exact HB.out|apply qb_|apply qa_|apply qc_)|exact HB.out))):w.heap.size≤gb162));have n3_:=aK ((by rw [hg];exact (qk_ (by repeat (first|(with_reducible first|exact HB.out|apply qb_|apply qa_|apply qc_)|exact HB.out))):w.heap.size≤gb162));clear HB;have HB:=n0_;have BK162:=n1_;have GW162:=n2_;have GE162:=n3_;clear n0_ n1_ n2_ n3_;clear hb hbox hg)|((with_reducible refine qz_ (N:=3) rfl ?_);refine qv_ ?hg (N:=3) ?hd (cs:=#[.int .i64 a1_0,.int .i64 a1_1]) (t:=77) ?hr ?_;(case hd=>rfl);(case hg=>rfl);(case hr=>first|(go_simp;done)|(go_simp;rfl));intro gb163 hg w11 hbox hb;have n0_:=aK (ql_ (g:=gb162) (o:=.cells #[.int .i64 a0_0,.int .i64 a0_1] 77 (0,0)) (by (with_reducible repeat (first|refine qe_ ?_ _|refine qg_ ?_|refine qd_ ?_ _));exact BK162.out) hb);have n1_:=aK (qm_ (by repeat (first|(with_reducible first|exact HB.out|apply qb_|apply qa_|apply qc_|refine qf_ ?_ GE162.out)|exact HB.out)) hb);have n2_:=aK (hbox);have n3_:=aK ((by rw [hg];exact (qk_ (by repeat (first|(with_reducible first|exact HB.out|apply qb_|apply qa_|apply qc_|refine qf_ ?_ GE162.out)|exact HB.out))):w.heap.size≤gb163));have n4_:=aK ((by rw [hg];exact (qk_ (by repeat (first|(with_reducible first|exact HB.out|apply qb_|apply qa_|apply qc_|refine qf_ ?_ GE162.out)|exact HB.out))):w.heap.size≤gb163));have n5_:=aK ((by rw [hg];exact Nat.ne_of_lt (blk_lt (g:=gb162) (o:=.cells #[.int .i64 a0_0,.int .i64 a0_1] 77 (0,0)) (by (with_reducible repeat (first|refine qe_ ?_ _|refine qg_ ?_|refine qd_ ?_ _));exact BK162.out)):gb162 ≠ gb163));have n6_:=aK ((by rw [hg];exact Nat.ne_of_gt (blk_lt (g:=gb162) (o:=.cells #[.int .i64 a0_0,.int .i64 a0_1] 77 (0,0)) (by (with_reducible repeat (first|refine qe_ ?_ _|refine qg_ ?_|refine qd_ ?_ _));exact BK162.out)):gb163 ≠ gb162));clear BK162;clear HB;have BK162:=n0_;have HB:=n1_;have BK163:=n2_;have GW163:=n3_;have GE163:=n4_;have NB162_163:=n5_;have NB163_162:=n6_;clear n0_ n1_ n2_ n3_ n4_ n5_ n6_;clear hb hbox hg;have hnb12:=NB162_163.out;have hnc12:=NB163_162.out;have hcz13_0:w11.cell? ⟨gb162,0,none⟩=some (.int .i64 a0_0):=(qi_ BK162.out 0).trans rfl;have hcz13_1:w11.cell? ⟨gb162,1,none⟩=some (.int .i64 a0_1):=(qi_ BK162.out 1).trans rfl;have hfz13_0:=qh_ BK162.out 0;have hfz13_1:=qh_ BK162.out 1;have hcz14_0:w11.cell? ⟨gb163,0,none⟩=some (.int .i64 a1_0):=(qi_ BK163.out 0).trans rfl;have hcz14_1:w11.cell? ⟨gb163,1,none⟩=some (.int .i64 a1_1):=(qi_ BK163.out 1).trans rfl;have hfz14_0:=qh_ BK163.out 0;have hfz14_1:=qh_ BK163.out 1))
   go_ret
   exact ⟨by first|rfl|(simp [qn_,qo_] <;> rfl)|(simp [*,qn_,qo_] <;> rfl),by repeat (first|(with_reducible first|exact HB.out|apply qb_|apply qa_|apply qc_|refine qf_ ?_ GE162.out|refine qf_ ?_ GE163.out)|exact HB.out)⟩
 ·rw [if_neg c3] at H
  have c3b0:(a0_0 == a1_0)=false:=beq_eq_false_iff_ne.mpr c3
  have c3b1:(a0_0 != a1_0)=true:=bne_iff_ne.mpr c3
  obtain rfl:=Option.some.inj H
  go_enter Try.func157,Try.ntmps157
  go_wp2_with (first|((with_reducible refine qz_ (N:=2) rfl ?_);refine qv_ ?hg (N:=2) ?hd (cs:=#[.int .i64 a0_0,.int .i64 a0_1]) (t:=77) ?hr ?_;(case hd=>rfl);(case hg=>rfl);(case hr=>first|(go_simp;done)|(go_simp;rfl));intro gb162 hg w15 hbox hb;have n0_:=aK (qm_ (by repeat (first|(with_reducible first|exact HB.out|apply qb_|apply qa_|apply qc_)|exact HB.out)) hb);have n1_:=aK (hbox);have n2_:=aK ((by rw [hg];exact (qk_ (by repeat (first|(with_reducible first|exact HB.out|apply qb_|apply qa_|apply qc_)|exact HB.out))):w.heap.size≤gb162));have n3_:=aK ((by rw [hg];exact (qk_ (by repeat (first|(with_reducible first|exact HB.out|apply qb_|apply qa_|apply qc_)|exact HB.out))):w.heap.size≤gb162));clear HB;have HB:=n0_;have BK162:=n1_;have GW162:=n2_;have GE162:=n3_;clear n0_ n1_ n2_ n3_;clear hb hbox hg)|((with_reducible refine qz_ (N:=3) rfl ?_);refine qv_ ?hg (N:=3) ?hd (cs:=#[.int .i64 a1_0,.int .i64 a1_1]) (t:=77) ?hr ?_;(case hd=>rfl);(case hg=>rfl);(case hr=>first|(go_simp;done)|(go_simp;rfl));intro gb163 hg w16 hbox hb;have n0_:=aK (ql_ (g:=gb162) (o:=.cells #[.int .i64 a0_0,.int .i64 a0_1] 77 (0,0)) (by (with_reducible repeat (first|refine qe_ ?_ _|refine qg_ ?_|refine qd_ ?_ _));exact BK162.out) hb);have n1_:=aK (qm_ (by repeat (first|(with_reducible first|exact HB.out|apply qb_|apply qa_|apply qc_|refine qf_ ?_ GE162.out)|exact HB.out)) hb);have n2_:=aK (hbox);have n3_:=aK ((by rw [hg];exact (qk_ (by repeat (first|(with_reducible first|exact HB.out|apply qb_|apply qa_|apply qc_|refine qf_ ?_ GE162.out)|exact HB.out))):w.heap.size≤gb163));have n4_:=aK ((by rw [hg];exact (qk_ (by repeat (first|(with_reducible first|exact HB.out|apply qb_|apply qa_|apply qc_|refine qf_ ?_ GE162.out)|exact HB.out))):w.heap.size≤gb163));have n5_:=aK ((by rw [hg];exact Nat.ne_of_lt (blk_lt (g:=gb162) (o:=.cells #[.int .i64 a0_0,.int .i64 a0_1] 77 (0,0)) (by (with_reducible repeat (first|refine qe_ ?_ _|refine qg_ ?_|refine qd_ ?_ _));exact BK162.out)):gb162 ≠ gb163));have n6_:=aK ((by rw [hg];exact Nat.ne_of_gt (blk_lt (g:=gb162) (o:=.cells #[.int .i64 a0_0,.int .i64 a0_1] 77 (0,0)) (by (with_reducible repeat (first|refine qe_ ?_ _|refine qg_ ?_|refine qd_ ?_ _));exact BK162.out)):gb163 ≠ gb162));clear BK162;clear HB;have BK162:=n0_;have HB:=n1_;have BK163:=n2_;have GW163:=n3_;have GE163:=n4_;have NB162_163:=n5_;have NB163_162:=n6_;clear n0_ n1_ n2_ n3_ n4_ n5_ n6_;clear hb hbox hg;have hnb17:=NB162_163.out;have hnc17:=NB163_162.out;have hcz18_0:w16.cell? ⟨gb162,0,none⟩=some (.int .i64 a0_0):=(qi_ BK162.out 0).trans rfl;have hcz18_1:w16.cell? ⟨gb162,1,none⟩=some (.int .i64 a0_1):=(qi_ BK162.out 1).trans rfl;have hfz18_0:=qh_ BK162.out 0;have hfz18_1:=qh_ BK162.out 1;have hcz19_0:w16.cell? ⟨gb163,0,none⟩=some (.int .i64 a1_0):=(qi_ BK163.out 0).trans rfl;have hcz19_1:w16.cell? ⟨gb163,1,none⟩=some (.int .i64 a1_1):=(qi_ BK163.out 1).trans rfl;have hfz19_0:=qh_ BK163.out 0;have hfz19_1:=qh_ BK163.out 1))
  go_ret
  exact ⟨by first|rfl|(simp [qn_,qo_] <;> rfl)|(simp [*,qn_,qo_] <;> rfl),by repeat (first|(with_reducible first|exact HB.out|apply qb_|apply qa_|apply qc_|refine qf_ ?_ GE162.out|refine qf_ ?_ GE163.out)|exact HB.out)⟩
end Go.Proofs.Ytaiefdhenikiiaa.Base
namespace Go.Proofs.Ytaiefdhenikiiaa.Base
open Go.RowKit Go.Proofs.YtaiefdhenikiiaaW.PrintWords Go.Proofs.YtaiefdhenikiiaaW.PrintLast Go.Proofs.YtaiefdhenikiiaaW.PrintMore
attribute [local go_sem] max2_int qv1_ max_two min_two max_three min_three max_four min_four Go.Proofs.YtaiefdhenikiiaaZ.qe1_   -- for this text's walks alone
set_option linter.unusedVariables false
set_option linter.unusedSimpArgs false
def qf3_.f (a0_0:ByteArray) (a0_1:Int) (a0_2:Int) (a1_0:ByteArray) (a1_1:Int) (a1_2:Int):Option (Bool):=if a0_0.toList=a1_0.toList then ((qx2_.f a0_1 a0_2 a1_1 a1_2).bind fun t166=>(if t166=true then (some true) else (some false))) else (some false)
set_option maxHeartbeats 8000000 in
set_option maxRecDepth 100000 in
theorem qf3_.calls (a0_0:ByteArray) (a0_1:Int) (a0_2:Int) (a1_0:ByteArray) (a1_1:Int) (a1_2:Int) (r:Bool) (w:World) (h:qf3_.f a0_0 a0_1 a0_2 a1_0 a1_1 a1_2=some r) :
  Calls Try.prog 80 #[.agg #[.string a0_0,.int .i64 a0_1,.int .i64 a0_2],.agg #[.string a1_0,.int .i64 a1_1,.int .i64 a1_2]] w fun e w'=>e=.returned (.bool r)∧Below w.heap.size w w':=by
 have hu79:=Try.underlying79
 have hu77:=Try.underlying77
 have HB:=aK (Below.refl w.heap.size w)
 have H:(if a0_0.toList=a1_0.toList then ((qx2_.f a0_1 a0_2 a1_1 a1_2).bind fun t166=>(if t166=true then (some true) else (some false))) else (some false))=some r:=h
 clear h
 by_cases c3:a0_0.toList=a1_0.toList
 ·rw [if_pos c3] at H
  have c3b0:(a0_0.toList == a1_0.toList)=true:=beq_iff_eq.mpr c3
  have c3b1:(a0_0.toList != a1_0.toList)=false:=bne_eq_false_iff_eq.mpr c3
  clear c3
  replace H:=Option.bind_eq_some_iff.mp H
  obtain ⟨t166,A40,H⟩:=H
  replace H:(if t166=true then (some true) else (some false))=some r:=H
  have A4:=aK A40
  clear A40
  by_cases c5:t166=true
  ·subst c5
   have H1:(some true)=some r:=by rw [if_pos rfl] at H;exact H
   clear H
   have H:=H1
   clear H1
   obtain rfl:=Option.some.inj H
   go_enter Try.func80,Try.ntmps80
   go_wp2_with (first|((with_reducible refine qz_ (N:=2) rfl ?_);refine qv_ ?hg (N:=2) ?hd (cs:=#[.string a0_0,.int .i64 a0_1,.int .i64 a0_2]) (t:=79) ?hr ?_;(case hd=>rfl);(case hg=>rfl);(case hr=>first|(go_simp;done)|(go_simp;rfl));intro gb164 hg w6 hbox hb;have n0_:=aK (qm_ (by repeat (first|(with_reducible first|exact HB.out|apply qb_|apply qa_|apply qc_)|exact HB.out)) hb);have n1_:=aK (hbox);have n2_:=aK ((by rw [hg];exact (qk_ (by repeat (first|(with_reducible first|exact HB.out|apply qb_|apply qa_|apply qc_)|exact HB.out))):w.heap.size≤gb164));have n3_:=aK ((by rw [hg];exact (qk_ (by repeat (first|(with_reducible first|exact HB.out|apply qb_|apply qa_|apply qc_)|exact HB.out))):w.heap.size≤gb164));clear HB;have HB:=n0_;have BK164:=n1_;have GW164:=n2_;have GE164:=n3_;clear n0_ n1_ n2_ n3_;clear hb hbox hg)|((with_reducible refine qz_ (N:=3) rfl ?_);refine qv_ ?hg (N:=3) ?hd (cs:=#[.string a1_0,.int .i64 a1_1,.int .i64 a1_2]) (t:=79) ?hr ?_;(case hd=>rfl);(case hg=>rfl);(case hr=>first|(go_simp;done)|(go_simp;rfl));intro gb165 hg w7 hbox hb;have n0_:=aK (ql_ (g:=gb164) (o:=.cells #[.string a0_0,.int .i64 a0_1,.int .i64 a0_2] 79 (0,0)) (by (with_reducible repeat (first|refine qe_ ?_ _|refine qg_ ?_|refine qd_ ?_ _));exact BK164.out) hb);have n1_:=aK (qm_ (by repeat (first|(with_reducible first|exact HB.out|apply qb_|apply qa_|apply qc_|refine qf_ ?_ GE164.out)|exact HB.out)) hb);have n2_:=aK (hbox);have n3_:=aK ((by rw [hg];exact (qk_ (by repeat (first|(with_reducible first|exact HB.out|apply qb_|apply qa_|apply qc_|refine qf_ ?_ GE164.out)|exact HB.out))):w.heap.size≤gb165));have n4_:=aK ((by rw [hg];exact (qk_ (by repeat (first|(with_reducible first|exact HB.out|apply qb_|apply qa_|apply qc_|refine qf_ ?_ GE164.out)|exact HB.out))):w.heap.size≤gb165));have n5_:=aK ((by rw [hg];exact Nat.ne_of_lt (blk_lt (g:=gb164) (o:=.cells #[.string a0_0,.int .i64 a0_1,.int .i64 a0_2] 79 (0,0)) (by (with_reducible repeat (first|refine qe_ ?_ _|refine qg_ ?_|refine qd_ ?_ _));exact BK164.out)):gb164 ≠ gb165));have n6_:=aK ((by rw [hg];exact Nat.ne_of_gt (blk_lt (g:=gb164) (o:=.cells #[.string a0_0,.int .i64 a0_1,.int .i64 a0_2] 79 (0,0)) (by (with_reducible repeat (first|refine qe_ ?_ _|refine qg_ ?_|refine qd_ ?_ _));exact BK164.out)):gb165 ≠ gb164));clear BK164;clear HB;have BK164:=n0_;have HB:=n1_;have BK165:=n2_;have GW165:=n3_;have GE165:=n4_;have NB164_165:=n5_;have NB165_164:=n6_;clear n0_ n1_ n2_ n3_ n4_ n5_ n6_;clear hb hbox hg;have hnb8:=NB164_165.out;have hnc8:=NB165_164.out;have hcz9_0:w7.cell? ⟨gb164,0,none⟩=some (.string a0_0):=(qi_ BK164.out 0).trans rfl;have hcz9_1:w7.cell? ⟨gb164,1,none⟩=some (.int .i64 a0_1):=(qi_ BK164.out 1).trans rfl;have hcz9_2:w7.cell? ⟨gb164,2,none⟩=some (.int .i64 a0_2):=(qi_ BK164.out 2).trans rfl;have hfz9_0:=qh_ BK164.out 0;have hfz9_1:=qh_ BK164.out 1;have hfz9_2:=qh_ BK164.out 2;have hcz10_0:w7.cell? ⟨gb165,0,none⟩=some (.string a1_0):=(qi_ BK165.out 0).trans rfl;have hcz10_1:w7.cell? ⟨gb165,1,none⟩=some (.int .i64 a1_1):=(qi_ BK165.out 1).trans rfl;have hcz10_2:w7.cell? ⟨gb165,2,none⟩=some (.int .i64 a1_2):=(qi_ BK165.out 2).trans rfl;have hfz10_0:=qh_ BK165.out 0;have hfz10_1:=qh_ BK165.out 1;have hfz10_2:=qh_ BK165.out 2)|((with_reducible refine qt_ (f:=157) rfl ?_);refine goesL_ (some 14) rfl rfl Try.func157 (by kernel_rfl) rfl #[.agg #[.int .i64 a0_1,.int .i64 a0_2],.agg #[.int .i64 a1_1,.int .i64 a1_2]] rfl (by (try simp only [List.map_toArray,List.map_cons,List.map_nil]);first|done|rfl|(simp only [List.length_drop,List.length_take];rfl)) ?_;(with_reducible refine (qx2_.calls a0_1 a0_2 a1_1 a1_2 true _ A4.out).mono ?_);rintro e w11 ⟨rfl,hb⟩;refine ⟨_,rfl,?_⟩;have n0_:=aK (ql_ (g:=gb164) (o:=.cells #[.string a0_0,.int .i64 a0_1,.int .i64 a0_2] 79 (0,0)) (by (with_reducible repeat (first|refine qe_ ?_ _|refine qg_ ?_|refine qd_ ?_ _));exact BK164.out) hb);have n1_:=aK (ql_ (g:=gb165) (o:=.cells #[.string a1_0,.int .i64 a1_1,.int .i64 a1_2] 79 (0,0)) (by (with_reducible repeat (first|refine qe_ ?_ _|refine qg_ ?_|refine qd_ ?_ _));exact BK165.out) hb);have n2_:=aK (qm_ (by repeat (first|(with_reducible first|exact HB.out|apply qb_|apply qa_|apply qc_|refine qf_ ?_ GE164.out|refine qf_ ?_ GE165.out)|exact HB.out)) hb);clear BK164;clear BK165;clear HB;have BK164:=n0_;have BK165:=n1_;have HB:=n2_;clear n0_ n1_ n2_;(try clear hb);(try clear hb2);(try clear hk);(try clear hi)))
   go_ret
   exact ⟨by first|rfl|(simp [qn_,qo_] <;> rfl)|(simp [*,qn_,qo_] <;> rfl),by repeat (first|(with_reducible first|exact HB.out|apply qb_|apply qa_|apply qc_|refine qf_ ?_ GE164.out|refine qf_ ?_ GE165.out)|exact HB.out)⟩
  ·replace c5:=Bool.eq_false_iff.mpr c5
   subst c5
   have H1:(some false)=some r:=by rw [if_neg (show ¬ (false=true) by decide)] at H;exact H
   clear H
   have H:=H1
   clear H1
   obtain rfl:=Option.some.inj H
   go_enter Try.func80,Try.ntmps80
   go_wp2_with (first|((with_reducible refine qz_ (N:=2) rfl ?_);refine qv_ ?hg (N:=2) ?hd (cs:=#[.string a0_0,.int .i64 a0_1,.int .i64 a0_2]) (t:=79) ?hr ?_;(case hd=>rfl);(case hg=>rfl);(case hr=>first|(go_simp;done)|(go_simp;rfl));intro gb164 hg w12 hbox hb;have n0_:=aK (qm_ (by repeat (first|(with_reducible first|exact HB.out|apply qb_|apply qa_|apply qc_)|exact HB.out)) hb);have n1_:=aK (hbox);have n2_:=aK ((by rw [hg];exact (qk_ (by repeat (first|(with_reducible first|exact HB.out|apply qb_|apply qa_|apply qc_)|exact HB.out))):w.heap.size≤gb164));have n3_:=aK ((by rw [hg];exact (qk_ (by repeat (first|(with_reducible first|exact HB.out|apply qb_|apply qa_|apply qc_)|exact HB.out))):w.heap.size≤gb164));clear HB;have HB:=n0_;have BK164:=n1_;have GW164:=n2_;have GE164:=n3_;clear n0_ n1_ n2_ n3_;clear hb hbox hg)|((with_reducible refine qz_ (N:=3) rfl ?_);refine qv_ ?hg (N:=3) ?hd (cs:=#[.string a1_0,.int .i64 a1_1,.int .i64 a1_2]) (t:=79) ?hr ?_;(case hd=>rfl);(case hg=>rfl);(case hr=>first|(go_simp;done)|(go_simp;rfl));intro gb165 hg w13 hbox hb;have n0_:=aK (ql_ (g:=gb164) (o:=.cells #[.string a0_0,.int .i64 a0_1,.int .i64 a0_2] 79 (0,0)) (by (with_reducible repeat (first|refine qe_ ?_ _|refine qg_ ?_|refine qd_ ?_ _));exact BK164.out) hb);have n1_:=aK (qm_ (by repeat (first|(with_reducible first|exact HB.out|apply qb_|apply qa_|apply qc_|refine qf_ ?_ GE164.out)|exact HB.out)) hb);have n2_:=aK (hbox);have n3_:=aK ((by rw [hg];exact (qk_ (by repeat (first|(with_reducible first|exact HB.out|apply qb_|apply qa_|apply qc_|refine qf_ ?_ GE164.out)|exact HB.out))):w.heap.size≤gb165));have n4_:=aK ((by rw [hg];exact (qk_ (by repeat (first|(with_reducible first|exact HB.out|apply qb_|apply qa_|apply qc_|refine qf_ ?_ GE164.out)|exact HB.out))):w.heap.size≤gb165));have n5_:=aK ((by rw [hg];exact Nat.ne_of_lt (blk_lt (g:=gb164) (o:=.cells #[.string a0_0,.int .i64 a0_1,.int .i64 a0_2] 79 (0,0)) (by (with_reducible repeat (first|refine qe_ ?_ _|refine qg_ ?_|refine qd_ ?_ _));exact BK164.out)):gb164 ≠ gb165));have n6_:=aK ((by rw [hg];exact Nat.ne_of_gt (blk_lt (g:=gb164) (o:=.cells #[.string a0_0,.int .i64 a0_1,.int .i64 a0_2] 79 (0,0)) (by (with_reducible repeat (first|refine qe_ ?_ _|refine qg_ ?_|refine qd_ ?_ _));exact BK164.out)):gb165 ≠ gb164));clear BK164;clear HB;have BK164:=n0_;have HB:=n1_;have BK165:=n2_;have GW165:=n3_;have GE165:=n4_;have NB164_165:=n5_;have NB165_164:=n6_;clear n0_ n1_ n2_ n3_ n4_ n5_ n6_;clear hb hbox hg;have hnb14:=NB164_165.out;have hnc14:=NB165_164.out;have hcz15_0:w13.cell? ⟨gb164,0,none⟩=some (.string a0_0):=(qi_ BK164.out 0).trans rfl;have hcz15_1:w13.cell? ⟨gb164,1,none⟩=some (.int .i64 a0_1):=(qi_ BK164.out 1).trans rfl;have hcz15_2:w13.cell? ⟨gb164,2,none⟩=some (.int .i64 a0_2):=(qi_ BK164.out 2).trans rfl;have hfz15_0:=qh_ BK164.out 0;have hfz15_1:=qh_ BK164.out 1;have hfz15_2:=qh_ BK164.out 2;have hcz16_0:w13.cell? ⟨gb165,0,none⟩=some (.string a1_0):=(qi_ BK165.out 0).trans rfl;have hcz16_1:w13.cell? ⟨gb165,1,none⟩=some (.int .i64 a1_1):=(qi_ BK165.out 1).trans rfl;have hcz16_2:w13.cell? ⟨gb165,2,none⟩=some (.int .i64 a1_2):=(qi_ BK165.out 2).trans rfl;have hfz16_0:=qh_ BK165.out 0;have hfz16_1:=qh_ BK165.out 1;have hfz16_2:=qh_ BK165.out 2)|((with_reducible refine qt_ (f:=157) rfl ?_);refine goesL_ (some 14) rfl rfl Try.func157 (by kernel_rfl) rfl #[.agg #[.int .i64 a0_1,.int .i64 a0_2],.agg #[.int .i64 a1_1,.int .i64 a1_2]] rfl (by (try simp only [List.map_toArray,List.map_cons,List.map_nil]);first|done|rfl|(simp only [List.length_drop,List.length_take];rfl)) ?_;(with_reducible refine (qx2_.calls a0_1 a0_2 a1_1 a1_2 false _ A4.out).mono ?_);rintro e w17 ⟨rfl,hb⟩;refine ⟨_,rfl,?_⟩;have n0_:=aK (ql_ (g:=gb164) (o:=.cells #[.string a0_0,.int .i64 a0_1,.int .i64 a0_2] 79 (0,0)) (by (with_reducible repeat (first|refine qe_ ?_ _|refine qg_ ?_|refine qd_ ?_ _));exact BK164.out) hb);have n1_:=aK (ql_ (g:=gb165) (o:=.cells #[.string a1_0,.int .i64 a1_1,.int .i64 a1_2] 79 (0,0)) (by (with_reducible repeat (first|refine qe_ ?_ _|refine qg_ ?_|refine qd_ ?_ _));exact BK165.out) hb);have n2_:=aK (qm_ (by repeat (first|(with_reducible first|exact HB.out|apply qb_|apply qa_|apply qc_|refine qf_ ?_ GE164.out|refine qf_ ?_ GE165.out)|exact HB.out)) hb);clear BK164;clear BK165;clear HB;have BK164:=n0_;have BK165:=n1_;have HB:=n2_;clear n0_ n1_ n2_;(try clear hb);(try clear hb2);(try clear hk);(try clear hi)))
   go_ret
   exact ⟨by first|rfl|(simp [qn_,qo_] <;> rfl)|(simp [*,qn_,qo_] <;> rfl),by repeat (first|(with_reducible first|exact HB.out|apply qb_|apply qa_|apply qc_|refine qf_ ?_ GE164.out|refine qf_ ?_ GE165.out)|exact HB.out)⟩
 ·rw [if_neg c3] at H
  have c3b0:(a0_0.toList == a1_0.toList)=false:=beq_eq_false_iff_ne.mpr c3
  have c3b1:(a0_0.toList != a1_0.toList)=true:=bne_iff_ne.mpr c3
  obtain rfl:=Option.some.inj H
  go_enter Try.func80,Try.ntmps80
  go_wp2_with (first|((with_reducible refine qz_ (N:=2) rfl ?_);refine qv_ ?hg (N:=2) ?hd (cs:=#[.string a0_0,.int .i64 a0_1,.int .i64 a0_2]) (t:=79) ?hr ?_;(case hd=>rfl);(case hg=>rfl);(case hr=>first|(go_simp;done)|(go_simp;rfl));intro gb164 hg w18 hbox hb;have n0_:=aK (qm_ (by repeat (first|(with_reducible first|exact HB.out|apply qb_|apply qa_|apply qc_)|exact HB.out)) hb);have n1_:=aK (hbox);have n2_:=aK ((by rw [hg];exact (qk_ (by repeat (first|(with_reducible first|exact HB.out|apply qb_|apply qa_|apply qc_)|exact HB.out))):w.heap.size≤gb164));have n3_:=aK ((by rw [hg];exact (qk_ (by repeat (first|(with_reducible first|exact HB.out|apply qb_|apply qa_|apply qc_)|exact HB.out))):w.heap.size≤gb164));clear HB;have HB:=n0_;have BK164:=n1_;have GW164:=n2_;have GE164:=n3_;clear n0_ n1_ n2_ n3_;clear hb hbox hg)|((with_reducible refine qz_ (N:=3) rfl ?_);refine qv_ ?hg (N:=3) ?hd (cs:=#[.string a1_0,.int .i64 a1_1,.int .i64 a1_2]) (t:=79) ?hr ?_;(case hd=>rfl);(case hg=>rfl);(case hr=>first|(go_simp;done)|(go_simp;rfl));intro gb165 hg w19 hbox hb;have n0_:=aK (ql_ (g:=gb164) (o:=.cells #[.string a0_0,.int .i64 a0_1,.int .i64 a0_2] 79 (0,0)) (by (with_reducible repeat (first|refine qe_ ?_ _|refine qg_ ?_|refine qd_ ?_ _));exact BK164.out) hb);have n1_:=aK (qm_ (by repeat (first|(with_reducible first|exact HB.out|apply qb_|apply qa_|apply qc_|refine qf_ ?_ GE164.out)|exact HB.out)) hb);have n2_:=aK (hbox);have n3_:=aK ((by rw [hg];exact (qk_ (by repeat (first|(with_reducible first|exact HB.out|apply qb_|apply qa_|apply qc_|refine qf_ ?_ GE164.out)|exact HB.out))):w.heap.size≤gb165));have n4_:=aK ((by rw [hg];exact (qk_ (by repeat (first|(with_reducible first|exact HB.out|apply qb_|apply qa_|apply qc_|refine qf_ ?_ GE164.out)|exact HB.out))):w.heap.size≤gb165));have n5_:=aK ((by rw [hg];exact Nat.ne_of_lt (blk_lt (g:=gb164) (o:=.cells #[.string a0_0,.int .i64 a0_1,.int .i64 a0_2] 79 (0,0)) (by (with_reducible repeat (first|refine qe_ ?_ _|refine qg_ ?_|refine qd_ ?_ _));exact BK164.out)):gb164 ≠ gb165));have n6_:=aK ((by rw [hg];exact Nat.ne_of_gt (blk_lt (g:=gb164) (o:=.cells #[.string a0_0,.int .i64 a0_1,.int .i64 a0_2] 79 (0,0)) (by (with_reducible repeat (first|refine qe_ ?_ _|refine qg_ ?_|refine qd_ ?_ _));exact BK164.out)):gb165 ≠ gb164));clear BK164;clear HB;have BK164:=n0_;have HB:=n1_;have BK165:=n2_;have GW165:=n3_;have GE165:=n4_;have NB164_165:=n5_;have NB165_164:=n6_;clear n0_ n1_ n2_ n3_ n4_ n5_ n6_;clear hb hbox hg;have hnb20:=NB164_165.out;have hnc20:=NB165_164.out;have hcz21_0:w19.cell? ⟨gb164,0,none⟩=some (.string a0_0):=(qi_ BK164.out 0).trans rfl;have hcz21_1:w19.cell? ⟨gb164,1,none⟩=some (.int .i64 a0_1):=(qi_ BK164.out 1).trans rfl;have hcz21_2:w19.cell? ⟨gb164,2,none⟩=some (.int .i64 a0_2):=(qi_ BK164.out 2).trans rfl;have hfz21_0:=qh_ BK164.out 0;have hfz21_1:=qh_ BK164.out 1;have hfz21_2:=qh_ BK164.out 2;have hcz22_0:w19.cell? ⟨gb165,0,none⟩=some (.string a1_0):=(qi_ BK165.out 0).trans rfl;have hcz22_1:w19.cell? ⟨gb165,1,none⟩=some (.int .i64 a1_1):=(qi_ BK165.out 1).trans rfl;have hcz22_2:w19.cell? ⟨gb165,2,none⟩=some (.int .i64 a1_2):=(qi_ BK165.out 2).trans rfl;have hfz22_0:=qh_ BK165.out 0;have hfz22_1:=qh_ BK165.out 1;have hfz22_2:=qh_ BK165.out 2))
  go_ret
  exact ⟨by first|rfl|(simp [qn_,qo_] <;> rfl)|(simp [*,qn_,qo_] <;> rfl),by repeat (first|(with_reducible first|exact HB.out|apply qb_|apply qa_|apply qc_|refine qf_ ?_ GE164.out|refine qf_ ?_ GE165.out)|exact HB.out)⟩
end Go.Proofs.Ytaiefdhenikiiaa.Base
