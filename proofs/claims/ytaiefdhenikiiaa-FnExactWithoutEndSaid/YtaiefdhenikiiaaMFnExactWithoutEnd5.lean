/- Texts that the proof of FnExactWithoutEnd needs, part 5. No condition. -/
import Derived.Test.YtaiefdhenikiiaaMFnExactWithoutEnd4
import Derived.Lib.Walk
import Derived.Shelf.Abstract
namespace Go.Proofs.YtaiefdhenikiiaaC
open Go.RowKit Go.Proofs.YtaiefdhenikiiaaW.PrintWords Go.Proofs.YtaiefdhenikiiaaW.PrintLast Go.Proofs.YtaiefdhenikiiaaW.PrintMore
set_option linter.unusedVariables false
set_option linter.unusedSimpArgs false
/-- What a function value answers at element j,in whatever world over w;what lay,lies. -/
def Test (g:Nat) (lb:Array Value) (v:Nat→Value) (p:Nat→Bool) (n:Nat) (w:World):Prop :=
  ∀ j,j < n→∀ W,Below w.heap.size w W→Calls Try.prog g (#[v j] ++ lb) W fun e w'=>e=.returned (.bool (p j))∧Below W.heap.size W w'
/-- Are these numbers of letters? -/
def letters (d:Int):Bool:=decide (1≤d) && decide (d≤3)
end Go.Proofs.YtaiefdhenikiiaaC
namespace Go.Proofs.Ytaiefdhenikiiaa.Base
open Go.RowKit Go.Proofs.YtaiefdhenikiiaaW.PrintWords Go.Proofs.YtaiefdhenikiiaaW.PrintLast Go.Proofs.YtaiefdhenikiiaaW.PrintMore
attribute [local go_sem] max2_int qv1_ max_two min_two max_three min_three max_four min_four Go.Proofs.YtaiefdhenikiiaaZ.qe1_   -- for this text's walks alone
set_option linter.unusedVariables false
set_option linter.unusedSimpArgs false
def stringslite_HasSuffix.f (a0:ByteArray) (a1:ByteArray):Option (Bool):=if (a0.size:Int) ≥ (a1.size:Int) then (if 0≤(wrap64 ((a0.size:Int) - (a1.size:Int))) then (if (wrap64 ((a0.size:Int) - (a1.size:Int)))≤(a0.size:Int) then (some ((a0.extract ((wrap64 ((a0.size:Int) - (a1.size:Int))):Int).toNat a0.size).toList == a1.toList)) else (none)) else (none)) else (some false)
set_option maxHeartbeats 8000000 in
set_option maxRecDepth 100000 in
theorem stringslite_HasSuffix.calls (a0:ByteArray) (a1:ByteArray) (r:Bool) (w:World) (h:stringslite_HasSuffix.f a0 a1=some r) :
  Calls Try.prog 210 #[.string a0,.string a1] w fun e w'=>e=.returned (.bool r)∧Drawn0 w w':=by
 have H:(if (a0.size:Int) ≥ (a1.size:Int) then (if 0≤(wrap64 ((a0.size:Int) - (a1.size:Int))) then (if (wrap64 ((a0.size:Int) - (a1.size:Int)))≤(a0.size:Int) then (some ((a0.extract ((wrap64 ((a0.size:Int) - (a1.size:Int))):Int).toNat a0.size).toList == a1.toList)) else (none)) else (none)) else (some false))=some r:=h
 clear h
 by_cases c3:(a0.size:Int) ≥ (a1.size:Int)
 ·rw [if_pos c3] at H
  have c3b0:decide ((a1.size:Int)≤(a0.size:Int))=true:=decide_eq_true c3
  have c3b1:decide (a1.size≤a0.size)=true:=decide_eq_true (Int.ofNat_le.mp c3)
  clear c3
  obtain ⟨ji4,hji4⟩:∃ j_:Int,(wrap64 ((a0.size:Int) - (a1.size:Int)))=j_:=⟨_,rfl⟩
  replace H:(if 0≤(ji4) then (if (ji4)≤(a0.size:Int) then (some ((a0.extract ((ji4):Int).toNat a0.size).toList == a1.toList)) else (none)) else (none))=some r:=by first|(rw [hji4] at H;exact H)|(simp only [hji4] at H ⊢;exact H)
  have hji4w:(IntKind.i64.wrap ((a0.size:Int) - (a1.size:Int)))=ji4:=(i64_w _).trans hji4
  by_cases c5:0≤(ji4)
  ·rw [if_pos c5] at H
   have c5b0:=eq_true c5
   have c5b1:decide (0≤(ji4))=true:=decide_eq_true c5
   clear c5
   by_cases c6:(ji4)≤(a0.size:Int)
   ·rw [if_pos c6] at H
    have c6b0:=eq_true c6
    have c6b1:decide ((ji4)≤(a0.size:Int))=true:=decide_eq_true c6
    clear c6
    obtain rfl:=Option.some.inj H
    go_enter Try.func210,Try.ntmps210
    go_wp2
    go_ret
    exact ⟨by first|rfl|(simp;done)|(simp only [← hji4] <;> (first|rfl|simp))|(simp [*];done),by repeat (first|exact Drawn0.refl _|apply Drawn0.step)⟩
   ·rw [if_neg c6] at H
    exact absurd H (by simp)
  ·rw [if_neg c5] at H
   exact absurd H (by simp)
 ·rw [if_neg c3] at H
  have c3b0:decide ((a1.size:Int)≤(a0.size:Int))=false:=decide_eq_false c3
  have c3b1:decide (a1.size≤a0.size)=false:=decide_eq_false (fun h=>c3 (Int.ofNat_le.mpr h))
  clear c3
  obtain rfl:=Option.some.inj H
  go_enter Try.func210,Try.ntmps210
  go_wp2
  go_ret
  exact ⟨by first|rfl|(simp;done)|(simp [*];done)|(simp [Go.Proofs.YtaiefdhenikiiaaZ.bne_nil];done),by repeat (first|exact Drawn0.refl _|apply Drawn0.step)⟩
end Go.Proofs.Ytaiefdhenikiiaa.Base
namespace Go.Proofs.Ytaiefdhenikiiaa.Base
open Go.RowKit Go.Proofs.YtaiefdhenikiiaaW.PrintWords Go.Proofs.YtaiefdhenikiiaaW.PrintLast Go.Proofs.YtaiefdhenikiiaaW.PrintMore
attribute [local go_sem] max2_int qv1_ max_two min_two max_three min_three max_four min_four Go.Proofs.YtaiefdhenikiiaaZ.qe1_   -- for this text's walks alone
set_option linter.unusedVariables false
set_option linter.unusedSimpArgs false
def stringslite_CutSuffix.f (a0:ByteArray) (a1:ByteArray):Option (ByteArray × Bool):=(stringslite_HasSuffix.f a0 a1).bind fun t549=>(if t549=true then (if 0≤(wrap64 ((a0.size:Int) - (a1.size:Int))) then (if (wrap64 ((a0.size:Int) - (a1.size:Int)))≤(a0.size:Int) then (some (a0.extract 0 ((wrap64 ((a0.size:Int) - (a1.size:Int))):Int).toNat,true)) else (none)) else (none)) else (some (a0,false)))
set_option maxHeartbeats 8000000 in
set_option maxRecDepth 100000 in
theorem stringslite_CutSuffix.calls (a0:ByteArray) (a1:ByteArray) (r1:ByteArray) (r2:Bool) (w:World) (h:stringslite_CutSuffix.f a0 a1=some (r1,r2)) :
  Calls Try.prog 161 #[.string a0,.string a1] w fun e w'=>e=.returned (.tuple #[.string r1,.bool r2])∧Drawn0 w w':=by
 have H:((stringslite_HasSuffix.f a0 a1).bind fun t549=>(if t549=true then (if 0≤(wrap64 ((a0.size:Int) - (a1.size:Int))) then (if (wrap64 ((a0.size:Int) - (a1.size:Int)))≤(a0.size:Int) then (some (a0.extract 0 ((wrap64 ((a0.size:Int) - (a1.size:Int))):Int).toNat,true)) else (none)) else (none)) else (some (a0,false))))=some (r1,r2):=h
 clear h
 replace H:=Option.bind_eq_some_iff.mp H
 obtain ⟨t549,A30,H⟩:=H
 replace H:(if t549=true then (if 0≤(wrap64 ((a0.size:Int) - (a1.size:Int))) then (if (wrap64 ((a0.size:Int) - (a1.size:Int)))≤(a0.size:Int) then (some (a0.extract 0 ((wrap64 ((a0.size:Int) - (a1.size:Int))):Int).toNat,true)) else (none)) else (none)) else (some (a0,false)))=some (r1,r2):=H
 have A3:=aK A30
 clear A30
 by_cases c4:t549=true
 ·subst c4
  have H1:(if 0≤(wrap64 ((a0.size:Int) - (a1.size:Int))) then (if (wrap64 ((a0.size:Int) - (a1.size:Int)))≤(a0.size:Int) then (some (a0.extract 0 ((wrap64 ((a0.size:Int) - (a1.size:Int))):Int).toNat,true)) else (none)) else (none))=some (r1,r2):=by rw [if_pos rfl] at H;exact H
  clear H
  have H:=H1
  clear H1
  obtain ⟨ji5,hji5⟩:∃ j_:Int,(wrap64 ((a0.size:Int) - (a1.size:Int)))=j_:=⟨_,rfl⟩
  replace H:(if 0≤(ji5) then (if (ji5)≤(a0.size:Int) then (some (a0.extract 0 ((ji5):Int).toNat,true)) else (none)) else (none))=some (r1,r2):=by first|(rw [hji5] at H;exact H)|(simp only [hji5] at H ⊢;exact H)
  (try rw [hji5] at A3)
  have hji5w:(IntKind.i64.wrap ((a0.size:Int) - (a1.size:Int)))=ji5:=(i64_w _).trans hji5
  by_cases c6:0≤(ji5)
  ·rw [if_pos c6] at H
   have c6b0:=eq_true c6
   have c6b1:decide (0≤(ji5))=true:=decide_eq_true c6
   clear c6
   by_cases c7:(ji5)≤(a0.size:Int)
   ·rw [if_pos c7] at H
    have c7b0:=eq_true c7
    have c7b1:decide ((ji5)≤(a0.size:Int))=true:=decide_eq_true c7
    clear c7
    simp only [Option.some.injEq,Prod.mk.injEq] at H
    obtain ⟨rfl,rfl⟩:=H
    go_enter Try.func161,Try.ntmps161
    go_wp2_with (first|((with_reducible refine qt_ (f:=210) rfl ?_);refine goesL_ (some 8) rfl rfl Try.func210 (by kernel_rfl) rfl #[.string a0,.string a1] rfl (by (try simp only [List.map_toArray,List.map_cons,List.map_nil]);first|done|rfl|(simp only [List.length_drop,List.length_take];rfl)) ?_;(with_reducible refine (stringslite_HasSuffix.calls a0 a1 true _ A3.out).mono ?_);rintro e w' ⟨rfl,⟨nd,rfl⟩⟩;refine ⟨_,rfl,?_⟩))
    go_ret2
    exact ⟨by first|rfl|(simp;done)|(simp only [← hji5] <;> (first|rfl|simp))|(simp [*];done),by repeat (first|exact Drawn0.refl _|apply Drawn0.step)⟩
   ·rw [if_neg c7] at H
    exact absurd H (by simp)
  ·rw [if_neg c6] at H
   exact absurd H (by simp)
 ·replace c4:=Bool.eq_false_iff.mpr c4
  subst c4
  have H1:(some (a0,false))=some (r1,r2):=by rw [if_neg (show ¬ (false=true) by decide)] at H;exact H
  clear H
  have H:=H1
  clear H1
  simp only [Option.some.injEq,Prod.mk.injEq] at H
  obtain ⟨rfl,rfl⟩:=H
  go_enter Try.func161,Try.ntmps161
  go_wp2_with (first|((with_reducible refine qt_ (f:=210) rfl ?_);refine goesL_ (some 8) rfl rfl Try.func210 (by kernel_rfl) rfl #[.string a0,.string a1] rfl (by (try simp only [List.map_toArray,List.map_cons,List.map_nil]);first|done|rfl|(simp only [List.length_drop,List.length_take];rfl)) ?_;(with_reducible refine (stringslite_HasSuffix.calls a0 a1 false _ A3.out).mono ?_);rintro e w' ⟨rfl,⟨nd,rfl⟩⟩;refine ⟨_,rfl,?_⟩))
  go_ret2
  exact ⟨by first|rfl|(simp;done)|(simp [*];done)|(simp [Go.Proofs.YtaiefdhenikiiaaZ.bne_nil];done),by repeat (first|exact Drawn0.refl _|apply Drawn0.step)⟩
end Go.Proofs.Ytaiefdhenikiiaa.Base
namespace Go.Proofs.Ytaiefdhenikiiaa.Base
open Go.RowKit Go.Proofs.YtaiefdhenikiiaaW.PrintWords Go.Proofs.YtaiefdhenikiiaaW.PrintLast Go.Proofs.YtaiefdhenikiiaaW.PrintMore
attribute [local go_sem] max2_int qv1_ max_two min_two max_three min_three max_four min_four Go.Proofs.YtaiefdhenikiiaaZ.qe1_   -- for this text's walks alone
set_option linter.unusedVariables false
set_option linter.unusedSimpArgs false
def strings_CutSuffix.f (a0:ByteArray) (a1:ByteArray):Option (ByteArray × Bool):=(stringslite_CutSuffix.f a0 a1).bind fun bt550=>(some (bt550.1,bt550.2))
set_option maxHeartbeats 8000000 in
set_option maxRecDepth 100000 in
theorem strings_CutSuffix.calls (a0:ByteArray) (a1:ByteArray) (r1:ByteArray) (r2:Bool) (w:World) (h:strings_CutSuffix.f a0 a1=some (r1,r2)) :
  Calls Try.prog 91 #[.string a0,.string a1] w fun e w'=>e=.returned (.tuple #[.string r1,.bool r2])∧Drawn0 w w':=by
 have H:((stringslite_CutSuffix.f a0 a1).bind fun bt550=>(some (bt550.1,bt550.2)))=some (r1,r2):=h
 clear h
 replace H:=Option.bind_eq_some_iff.mp H
 obtain ⟨⟨t550,t551⟩,A30,H⟩:=H
 replace H:(some (t550,t551))=some (r1,r2):=H
 have A3:=aK A30
 clear A30
 simp only [Option.some.injEq,Prod.mk.injEq] at H
 obtain ⟨rfl,rfl⟩:=H
 go_enter Try.func91,Try.ntmps91
 go_wp2_with (first|((with_reducible refine qt_ (f:=161) rfl ?_);refine goesL_ (some 8) rfl rfl Try.func161 (by kernel_rfl) rfl #[.string a0,.string a1] rfl (by (try simp only [List.map_toArray,List.map_cons,List.map_nil]);first|done|rfl|(simp only [List.length_drop,List.length_take];rfl)) ?_;(with_reducible refine (stringslite_CutSuffix.calls a0 a1 t550 t551 _ A3.out).mono ?_);rintro e w' ⟨rfl,⟨nd,rfl⟩⟩;refine ⟨_,rfl,?_⟩))
 go_ret2
 exact ⟨by first|rfl|(simp;done)|(simp [*];done)|(simp [Go.Proofs.YtaiefdhenikiiaaZ.bne_nil];done),by repeat (first|exact Drawn0.refl _|apply Drawn0.step)⟩
end Go.Proofs.Ytaiefdhenikiiaa.Base
namespace Go.Proofs.Ytaiefdhenikiiaa.Base
open Go.RowKit Go.Proofs.YtaiefdhenikiiaaW.PrintWords Go.Proofs.YtaiefdhenikiiaaW.PrintLast Go.Proofs.YtaiefdhenikiiaaW.PrintMore
attribute [local go_sem] max2_int qv1_ max_two min_two max_three min_three max_four min_four Go.Proofs.YtaiefdhenikiiaaZ.qe1_   -- for this text's walks alone
set_option linter.unusedVariables false
set_option linter.unusedSimpArgs false
mutual
def qs_.j1:Nat→List (S79)→ByteArray→Int→Int→Int→Option ((List (S79)) × Bool)
 | 0,_,_,_,_,_=>none
 | k+1,x0,x1,x8,x308000,x308001=>(some (([]:List (S79)):List (S79))).bind fun y310=>(if 0≤x8 then (if x8≤(x0.length:Int) then ((some (x0.take (x8:Int).toNat:List (S79))).bind fun y313=>(if y310.length+y313.length < 4398046511104 then ((some (y310 ++ y313:List (S79))).bind fun y317=>(if x8 < (x0.length:Int) then (qs_.j2 k x0 x1 x8 y317 (((rd_T79 x0 x8).f0).toList == x1.toList) x308000 x308001) else (qs_.j2 k x0 x1 x8 y317 false x308000 x308001))) else (none))) else (none)) else (none))
def qs_.j2:Nat→List (S79)→ByteArray→Int→List (S79)→Bool→Int→Int→Option ((List (S79)) × Bool)
 | 0,_,_,_,_,_,_,_=>none
 | k+1,x0,x1,x8,x9,x44,x308000,x308001=>if x44=true then (if 0≤x8 then (if x8 < (x0.length:Int) then ((qa2_.f k ((rd_T79 x0 x8).f1.f0) ((rd_T79 x0 x8).f1.f1) x308000 x308001).bind fun bt322=>(if bt322.2.2=true then ((qd2_.f bt322.1 bt322.2.1).bind fun t326=>(if t326=true then (if 0≤(wrap64 (x8+1)) then (if (wrap64 (x8+1))≤(x0.length:Int) then ((some (x0.drop ((wrap64 (x8+1)):Int).toNat:List (S79))).bind fun y327=>(if x9.length+y327.length < 4398046511104 then (some ((x9 ++ y327),true)) else (none))) else (none)) else (none)) else (if x9.length < 4398046511104 then ((some (x9 ++ [(⟨x1,(⟨bt322.1,bt322.2.1⟩:S77)⟩:S79)]:List (S79))).bind fun y334=>(if 0≤(wrap64 (x8+1)) then (if (wrap64 (x8+1))≤(x0.length:Int) then ((some (x0.drop ((wrap64 (x8+1)):Int).toNat:List (S79))).bind fun y337=>(if y334.length+y337.length < 4398046511104 then (some ((y334 ++ y337),true)) else (none))) else (none)) else (none))) else (none)))) else (some (([]:List (S79)),false)))) else (none)) else (none)) else ((qd2_.f x308000 x308001).bind fun t344=>(if t344=true then (if 0≤x8 then (if x8≤(x0.length:Int) then ((some (x0.drop (x8:Int).toNat:List (S79))).bind fun y345=>(if x9.length+y345.length < 4398046511104 then (some ((x9 ++ y345),true)) else (none))) else (none)) else (none)) else (if x9.length < 4398046511104 then ((some (x9 ++ [(⟨x1,(⟨x308000,x308001⟩:S77)⟩:S79)]:List (S79))).bind fun y352=>(if 0≤x8 then (if x8≤(x0.length:Int) then ((some (x0.drop (x8:Int).toNat:List (S79))).bind fun y355=>(if y352.length+y355.length < 4398046511104 then (some ((y352 ++ y355),true)) else (none))) else (none)) else (none))) else (none))))
def qs_.l0:Nat→List (S79)→ByteArray→Int→Int→Int→Option ((List (S79)) × Bool)
 | 0,_,_,_,_,_=>none
 | k+1,x0,x1,x8,x308000,x308001=>if x8 < (x0.length:Int) then (if 0≤x8 then ((qk2_.f ((rd_T79 x0 x8).f0) x1).bind fun t309=>(if t309=true then (qs_.l0 k x0 x1 (wrap64 (x8+1)) x308000 x308001) else (qs_.j1 k x0 x1 x8 x308000 x308001))) else (none)) else (qs_.j1 k x0 x1 x8 x308000 x308001)
end
def qs_.f (k:Nat) (l0:List (S79)) (a1:ByteArray) (a2_0:Int) (a2_1:Int):Option ((List (S79)) × Bool):=qs_.l0 k l0 a1 0 a2_0 a2_1
theorem qs_.mono_l:∀ k,(∀ y0 y1 y2 y3 y4,LeO (qs_.j1 k y0 y1 y2 y3 y4) (qs_.j1 (k+1) y0 y1 y2 y3 y4))∧(∀ y0 y1 y2 y3 y4 y5 y6,LeO (qs_.j2 k y0 y1 y2 y3 y4 y5 y6) (qs_.j2 (k+1) y0 y1 y2 y3 y4 y5 y6))∧(∀ y0 y1 y2 y3 y4,LeO (qs_.l0 k y0 y1 y2 y3 y4) (qs_.l0 (k+1) y0 y1 y2 y3 y4))
 | 0=>⟨fun _ _ _ _ _ r h=>by simp [qs_.j1] at h,fun _ _ _ _ _ _ _ r h=>by simp [qs_.j2] at h,fun _ _ _ _ _ r h=>by simp [qs_.l0] at h⟩
 | k+1=>by
  obtain ⟨ih0,ih1,ih2⟩:=qs_.mono_l k
  refine ⟨?_,?_,?_⟩
  ·intro y0 y1 y2 y3 y4
   unfold qs_.j1
   repeat' first
   | (with_reducible exact ih0 _ _ _ _ _)
   | (with_reducible exact ih1 _ _ _ _ _ _ _)
   | (with_reducible exact ih2 _ _ _ _ _)
   | (with_reducible exact qa2_.mono _ _ _ _ _)
   | (with_reducible exact LeO.refl _)
   | (with_reducible exact LeO.none _)
   | (with_reducible refine LeO.ite ?_ ?_)
   | (with_reducible refine LeO.bind ?_ (fun _=>?_))
   | exact ih0 _ _ _ _ _
   | exact ih1 _ _ _ _ _ _ _
   | exact ih2 _ _ _ _ _
   | exact qa2_.mono _ _ _ _ _
   | exact LeO.none _
   | refine LeO.ite ?_ ?_
   | refine LeO.bind ?_ (fun _=>?_)
  ·intro y0 y1 y2 y3 y4 y5 y6
   unfold qs_.j2
   repeat' first
   | (with_reducible exact ih0 _ _ _ _ _)
   | (with_reducible exact ih1 _ _ _ _ _ _ _)
   | (with_reducible exact ih2 _ _ _ _ _)
   | (with_reducible exact qa2_.mono _ _ _ _ _)
   | (with_reducible exact LeO.refl _)
   | (with_reducible exact LeO.none _)
   | (with_reducible refine LeO.ite ?_ ?_)
   | (with_reducible refine LeO.bind ?_ (fun _=>?_))
   | exact ih0 _ _ _ _ _
   | exact ih1 _ _ _ _ _ _ _
   | exact ih2 _ _ _ _ _
   | exact qa2_.mono _ _ _ _ _
   | exact LeO.none _
   | refine LeO.ite ?_ ?_
   | refine LeO.bind ?_ (fun _=>?_)
  ·intro y0 y1 y2 y3 y4
   unfold qs_.l0
   repeat' first
   | (with_reducible exact ih0 _ _ _ _ _)
   | (with_reducible exact ih1 _ _ _ _ _ _ _)
   | (with_reducible exact ih2 _ _ _ _ _)
   | (with_reducible exact qa2_.mono _ _ _ _ _)
   | (with_reducible exact LeO.refl _)
   | (with_reducible exact LeO.none _)
   | (with_reducible refine LeO.ite ?_ ?_)
   | (with_reducible refine LeO.bind ?_ (fun _=>?_))
   | exact ih0 _ _ _ _ _
   | exact ih1 _ _ _ _ _ _ _
   | exact ih2 _ _ _ _ _
   | exact qa2_.mono _ _ _ _ _
   | exact LeO.none _
   | refine LeO.ite ?_ ?_
   | refine LeO.bind ?_ (fun _=>?_)
theorem qs_.mono:∀ a0 a1 a2 a3 k,LeO (qs_.f k a0 a1 a2 a3) (qs_.f (k+1) a0 a1 a2 a3):=by
 intro a0 a1 a2 a3 k
 obtain ⟨ih0,ih1,ih2⟩:=qs_.mono_l k
 unfold qs_.f
 repeat' first
   | (with_reducible exact ih0 _ _ _ _ _)
   | (with_reducible exact ih1 _ _ _ _ _ _ _)
   | (with_reducible exact ih2 _ _ _ _ _)
   | (with_reducible exact qa2_.mono _ _ _ _ _)
   | (with_reducible exact LeO.refl _)
   | (with_reducible exact LeO.none _)
   | (with_reducible refine LeO.ite ?_ ?_)
   | (with_reducible refine LeO.bind ?_ (fun _=>?_))
   | exact ih0 _ _ _ _ _
   | exact ih1 _ _ _ _ _ _ _
   | exact ih2 _ _ _ _ _
   | exact qa2_.mono _ _ _ _ _
   | exact LeO.none _
   | refine LeO.ite ?_ ?_
   | refine LeO.bind ?_ (fun _=>?_)
def qs_.T6:Bool × List (List Nat × List Nat):=(true,[([],[]),([],[]),([0,1],[0,1]),([2],[2]),([3],[3]),([],[]),([4,5],[4,5]),([6],[6]),([7],[7]),([7],[7]),([],[]),([10,8,6,0,1,2,3,4,5,6,7,8,10],[8,10]),([9,11,0,1,2,3,4,5,6,7,8,9,10,11],[9])])
def qs_.B6:List Nat:=[0,0,3,7,15,0,63,127,255,255,0,1535,4095]
theorem qs_.tab6:rtab .any (opsOf Try.f158 6)=qs_.T6:=by kernel_rfl
theorem qs_.bits6:waitsOk qs_.T6.2 qs_.B6=true:=by kernel_rfl
set_option maxHeartbeats 8000000 in
set_option maxRecDepth 100000 in
theorem qs_.calls (k:Nat) (A0:Option Addr) (c0:Nat) (l0:List (S79)) (a1:ByteArray) (a2_0:Int) (a2_1:Int) (r1:List (S79)) (r2:Bool) (w:World) (hr0:Kd.C k79 w A0 l0.length l0) (hc0:l0.length≤c0) (h:qs_.f k l0 a1 a2_0 a2_1=some (r1,r2)) :
  Calls Try.prog 158 #[.slice A0 l0.length c0,.string a1,.agg #[.int .i64 a2_0,.int .i64 a2_1]] w fun e w'=>∃ v0_:Value,e=.returned (.tuple #[v0_,.bool r2])∧Kd.R k79 79 w' w.heap.size (fun _=>True) v0_ r1∧Below w.heap.size w w':=by
 have hu77:=Try.underlying77
 have hu79:=Try.underlying79
 have HR0:=aK hr0
 have HC0:=aK hc0
 clear hr0 hc0
 have HB:=aK (Below.refl w.heap.size w)
 have H:(qs_.l0 k l0 a1 0 a2_0 a2_1)=some (r1,r2):=h
 clear h
 have HC4:=aK H
 clear H
 go_enter Try.func158,Try.ntmps158
 go_upto_block 0 with (first|((with_reducible refine qz_ (N:=5) rfl ?_);refine qv_ ?hg (N:=5) ?hd (cs:=#[.int .i64 a2_0,.int .i64 a2_1]) (t:=77) ?hr ?_;(case hd=>rfl);(case hg=>rfl);(case hr=>first|(go_simp;done)|(go_simp;rfl));intro gb307 hg w5 hbox hb;have n0_:=aK (qm_ (by repeat (first|(with_reducible first|exact HB.out|apply qb_|apply qa_|apply qc_)|exact HB.out)) hb);have n1_:=aK (hbox);have n2_:=aK ((by rw [hg];exact (qk_ (by repeat (first|(with_reducible first|exact HB.out|apply qb_|apply qa_|apply qc_)|exact HB.out))):w.heap.size≤gb307));have n3_:=aK ((by rw [hg];exact (qk_ (by repeat (first|(with_reducible first|exact HB.out|apply qb_|apply qa_|apply qc_)|exact HB.out))):w.heap.size≤gb307));clear HB;have HB:=n0_;have BK307:=n1_;have GW307:=n2_;have GE307:=n3_;clear n0_ n1_ n2_ n3_;clear hb hbox hg))
 (try simp only [Act.put,List.setIfInBounds_toArray,List.set_cons_zero,List.set_cons_succ])
 go_cut [8] (fun v8 wc=>∃ (kq:Nat) (x8_3:Int),v8=.int .i64 x8_3∧Aside0 (qs_.j1 kq l0 a1 x8_3 a2_0 a2_1=some (r1,r2))∧Aside0 (kq≤k)∧Aside0 (wc.heap[gb307]?=some (.cells #[.int .i64 a2_0,.int .i64 a2_1] 77 (0,0)))∧Aside0 (Below w.heap.size w wc))
 case first =>
  have H:=HC4.out
  clear HC4
  have H':=aK H
  clear H
  go_wp2
  go_loopg [8] k (fun kq v8 w'=>∃ (x8_1:Int),v8=.int .i64 x8_1∧Aside0 (qs_.l0 kq l0 a1 x8_1 a2_0 a2_1=some (r1,r2))∧Aside0 (kq≤k)∧Aside0 (w'.heap[gb307]?=some (.cells #[.int .i64 a2_0,.int .i64 a2_1] 77 (0,0)))∧Aside0 (Below w.heap.size w w'))
  case atStart=>exact ⟨(0),(by first|rfl|(simp;done)|(simp [*];done)),H',⟨Nat.le_refl _⟩,⟨by (with_reducible repeat (first|refine qe_ ?_ _|refine qg_ ?_|refine qd_ ?_ _));exact BK307.out⟩,⟨by repeat (first|(with_reducible first|exact HB.out|apply qb_|apply qa_|apply qc_|refine qf_ ?_ GE307.out)|exact HB.out)⟩⟩
  case round =>
   clear H'
   try clear c1
   try clear p2
   obtain ⟨x8_1,rfl,HA,HK1,BK307,HB⟩:=hrel
   cases gk with
   | zero=>exact absurd HA.out (by simp [qs_.l0])
   | succ k1 =>
    have H:=HA.out
    clear HA
    simp only [qs_.l0] at H
    by_cases c6:x8_1 < (l0.length:Int)
    ·rw [if_pos c6] at H
     have c6b0:decide (x8_1 < (l0.length:Int))=true:=decide_eq_true c6
     clear c6
     (first|rw [c6b0]|(simp only [i64_w,i32_w];rw [c6b0])|skip)
     by_cases c7:0≤x8_1
     ·rw [if_pos c7] at H
      have c7b0:decide (0≤x8_1)=true:=decide_eq_true c7
      clear c7
      replace H:=Option.bind_eq_some_iff.mp H
      obtain ⟨t309,A80,H⟩:=H
      replace H:(if t309=true then (qs_.l0 k1 l0 a1 (wrap64 (x8_1+1)) a2_0 a2_1) else (qs_.j1 k1 l0 a1 x8_1 a2_0 a2_1))=some (r1,r2):=H
      have A8:=aK A80
      clear A80
      by_cases c9:t309=true
      ·subst c9
       have H1:(qs_.l0 k1 l0 a1 (wrap64 (x8_1+1)) a2_0 a2_1)=some (r1,r2):=by rw [if_pos rfl] at H;exact H
       clear H
       have H:=H1
       clear H1
       have H':=aK H
       clear H
       have p308:0≤(x8_1:Int):=of_decide_eq_true (by first|(with_reducible assumption)|assumption)
       have q308:x8_1 < (l0.length:Int):=of_decide_eq_true (by first|(with_reducible assumption)|assumption)
       obtain ⟨ad308,e308,hx308_0,hx308_1,hx308_2⟩:=at_T79 HR0.out x8_1 p308 q308
       cases e308
       replace hx308_0:=(HB.out.cell (World.block_lt_of_cell? w _ hx308_0)).trans hx308_0
       replace hx308_1:=(HB.out.cell (World.block_lt_of_cell? w _ hx308_1)).trans hx308_1
       replace hx308_2:=(HB.out.cell (World.block_lt_of_cell? w _ hx308_2)).trans hx308_2
       replace p308:=eq_true p308
       replace q308:=eq_true q308
       go_wp2_with (first|(go_at_call 152;(with_reducible refine (qk2_.calls ((rd_T79 l0 x8_1).f0) a1 true _ A8.out).mono ?_);rintro e w' ⟨rfl,⟨nd,rfl⟩⟩))
       go_roundg k1
       case measure=>have:=HK1.out;omega
       case rel=>exact ⟨(wrap64 (x8_1+1)),(by first|rfl|(simp;done)|(simp [*];done)),H',⟨by have:=HK1.out;omega⟩,⟨by (with_reducible repeat (first|refine qe_ ?_ _|refine qg_ ?_|refine qd_ ?_ _));exact BK307.out⟩,⟨by repeat (first|(with_reducible first|exact HB.out|apply qb_|apply qa_|apply qc_|refine qf_ ?_ GE307.out)|exact HB.out)⟩⟩
      ·replace c9:=Bool.eq_false_iff.mpr c9
       subst c9
       have H1:(qs_.j1 k1 l0 a1 x8_1 a2_0 a2_1)=some (r1,r2):=by rw [if_neg (show ¬ (false=true) by decide)] at H;exact H
       clear H
       have H:=H1
       clear H1
       have H':=aK H
       clear H
       have p308:0≤(x8_1:Int):=of_decide_eq_true (by first|(with_reducible assumption)|assumption)
       have q308:x8_1 < (l0.length:Int):=of_decide_eq_true (by first|(with_reducible assumption)|assumption)
       obtain ⟨ad308,e308,hx308_0,hx308_1,hx308_2⟩:=at_T79 HR0.out x8_1 p308 q308
       cases e308
       replace hx308_0:=(HB.out.cell (World.block_lt_of_cell? w _ hx308_0)).trans hx308_0
       replace hx308_1:=(HB.out.cell (World.block_lt_of_cell? w _ hx308_1)).trans hx308_1
       replace hx308_2:=(HB.out.cell (World.block_lt_of_cell? w _ hx308_2)).trans hx308_2
       replace p308:=eq_true p308
       replace q308:=eq_true q308
       go_wp2_with (first|(go_at_call 152;(with_reducible refine (qk2_.calls ((rd_T79 l0 x8_1).f0) a1 false _ A8.out).mono ?_);rintro e w' ⟨rfl,⟨nd,rfl⟩⟩))
       go_meet
       case rel=>exact ⟨_,(x8_1),(by first|rfl|(simp;done)|(simp [*];done)),H',⟨by have:=HK1.out;first|omega|exact Nat.le_refl _⟩,⟨by (with_reducible repeat (first|refine qe_ ?_ _|refine qg_ ?_|refine qd_ ?_ _));exact BK307.out⟩,⟨by repeat (first|(with_reducible first|exact HB.out|apply qb_|apply qa_|apply qc_|refine qf_ ?_ GE307.out)|exact HB.out)⟩⟩
     ·rw [if_neg c7] at H
      exact absurd H (by simp)
    ·rw [if_neg c6] at H
     have c6b0:decide (x8_1 < (l0.length:Int))=false:=decide_eq_false c6
     clear c6
     (first|rw [c6b0]|(simp only [i64_w,i32_w];rw [c6b0])|skip)
     have H':=aK H
     clear H
     go_wp2
     go_meet
     case rel=>exact ⟨_,(x8_1),(by first|rfl|(simp;done)|(simp [*];done)),H',⟨by have:=HK1.out;first|omega|exact Nat.le_refl _⟩,⟨by (with_reducible repeat (first|refine qe_ ?_ _|refine qg_ ?_|refine qd_ ?_ _));exact BK307.out⟩,⟨by repeat (first|(with_reducible first|exact HB.out|apply qb_|apply qa_|apply qc_|refine qf_ ?_ GE307.out)|exact HB.out)⟩⟩
 case rest =>
  clear HC4
  try clear c1
  try clear p2
  try clear p3
  try clear q3
  try clear hx3
  try clear c6
  try clear c6b0
  try clear p6
  try clear c7
  try clear c7b0
  try clear c9
  try clear hx308_0
  try clear hx308_1
  try clear hx308_2
  try clear p2
  try clear p308
  try clear q308
  obtain ⟨kq,x8_3,rfl,HA,HJ3,BK307,HB⟩:=hcut
  cases kq with
  | zero=>exact absurd HA.out (by simp [qs_.j1])
  | succ kj3 =>
   have H:=HA.out
   clear HA
   simp only [qs_.j1] at H
   obtain ⟨y310,hy310⟩:∃ y_:List (S79),y_=(([]:List (S79))):=⟨_,rfl⟩
   replace H:(if 0≤x8_3 then (if x8_3≤(l0.length:Int) then ((some (l0.take (x8_3:Int).toNat:List (S79))).bind fun y313=>(if y310.length+y313.length < 4398046511104 then ((some (y310 ++ y313:List (S79))).bind fun y317=>(if x8_3 < (l0.length:Int) then (qs_.j2 kj3 l0 a1 x8_3 y317 (((rd_T79 l0 x8_3).f0).toList == a1.toList) a2_0 a2_1) else (qs_.j2 kj3 l0 a1 x8_3 y317 false a2_0 a2_1))) else (none))) else (none)) else (none))=some (r1,r2):=by first|(rw [hy310];with_reducible exact H)|(have H2_:=(Option.bind_some _ _).symm.trans H;rw [hy310];with_reducible exact H2_)|(have H2_:=(Option.bind_some _ _).symm.trans H;with_reducible exact H2_)|with_reducible exact H|(rw [hy310];exact H)|exact H
   have Ny310:=aK hy310
   clear hy310
   by_cases c10:0≤x8_3
   ·rw [if_pos c10] at H
    have c10b0:=eq_true c10
    have c10b1:decide (0≤x8_3)=true:=decide_eq_true c10
    clear c10
    by_cases c11:x8_3≤(l0.length:Int)
    ·rw [if_pos c11] at H
     have c11b0:=eq_true c11
     have c11b1:decide (x8_3≤(l0.length:Int))=true:=decide_eq_true c11
     clear c11
     obtain ⟨y313,hy313⟩:∃ y_:List (S79),y_=(l0.take (x8_3:Int).toNat):=⟨_,rfl⟩
     replace H:(if y310.length+y313.length < 4398046511104 then ((some (y310 ++ y313:List (S79))).bind fun y317=>(if x8_3 < (l0.length:Int) then (qs_.j2 kj3 l0 a1 x8_3 y317 (((rd_T79 l0 x8_3).f0).toList == a1.toList) a2_0 a2_1) else (qs_.j2 kj3 l0 a1 x8_3 y317 false a2_0 a2_1))) else (none))=some (r1,r2):=by first|(rw [hy313];with_reducible exact H)|(have H2_:=(Option.bind_some _ _).symm.trans H;rw [hy313];with_reducible exact H2_)|(have H2_:=(Option.bind_some _ _).symm.trans H;with_reducible exact H2_)|with_reducible exact H|(rw [hy313];exact H)|exact H
     have Ny313:=aK hy313
     clear hy313
     by_cases c12:y310.length+y313.length < 4398046511104
     ·rw [if_pos c12] at H
      have LMc12:=aK c12
      clear c12
      obtain ⟨y317,hy317⟩:∃ y_:List (S79),y_=(y310 ++ y313):=⟨_,rfl⟩
      replace H:(if x8_3 < (l0.length:Int) then (qs_.j2 kj3 l0 a1 x8_3 y317 (((rd_T79 l0 x8_3).f0).toList == a1.toList) a2_0 a2_1) else (qs_.j2 kj3 l0 a1 x8_3 y317 false a2_0 a2_1))=some (r1,r2):=by first|(rw [hy317];with_reducible exact H)|(have H2_:=(Option.bind_some _ _).symm.trans H;rw [hy317];with_reducible exact H2_)|(have H2_:=(Option.bind_some _ _).symm.trans H;with_reducible exact H2_)|with_reducible exact H|(rw [hy317];exact H)|exact H
      have Ny317:=aK hy317
      clear hy317
      have HC13:=aK H
      clear H
      go_upto_region 5 with (first|((with_reducible refine qz_ (N:=27) rfl ?_);refine Kd.R_lit k79 _ 79 ?hg (N:=27) ?hd (xs:=([]:List (S79))) (inner:=[]) (ok:=fun _=>True) (okp:=fun _=>True) ?hr ?hp (fun _ hk=>hk) trivial (Below.refl _ _) (Nat.le_refl _) (by simp) ?_;(case hd=>rfl);(case hg=>rfl);(case hr=>first|(go_simp;done)|(go_simp;rfl));(case hp=>exact (Reps.none _ _));intro v311 w14 ho15 hb hg_ hnew_;clear hg_ hnew_;(first|rw [← Ny310.out] at ho15|(simp only [Int.reduceToNat] at ho15;rw [← Ny310.out] at ho15));have n0_:=aK (Kd.qt2_ ho15 (qk_ (by repeat (first|(with_reducible first|exact HB.out|apply qb_|apply qa_|apply qc_|refine qf_ ?_ GE307.out)|exact HB.out))));have n1_:=aK (ql_ (g:=gb307) (o:=.cells #[.int .i64 a2_0,.int .i64 a2_1] 77 (0,0)) (by (with_reducible repeat (first|refine qe_ ?_ _|refine qg_ ?_|refine qd_ ?_ _));exact BK307.out) hb);have n2_:=aK (qm_ (by repeat (first|(with_reducible first|exact HB.out|apply qb_|apply qa_|apply qc_|refine qf_ ?_ GE307.out)|exact HB.out)) hb);clear BK307;clear HB;have HO312:=n0_;have BK307:=n1_;have HB:=n2_;clear n0_ n1_ n2_;clear hb ho15;have q16:(x8_3:Int)≤((l0.length:Int):Int):=of_decide_eq_true (by first|(with_reducible assumption)|assumption);obtain ⟨i016,hi016,_,hsz16,_⟩:=info_parts info79;have hroom16:l0.length≤c0:=HC0.out;have hC16:Kd.C k79 _ A0 l0.length l0:=HR0.out;have hcut16:=cut_to (P:=Try.prog) 24 79 .i64 Try.underlying24 hi016 A0 l0.length c0 x8_3 (of_decide_eq_true (by first|(with_reducible assumption)|assumption)) q16 hroom16;have hr16:=Kd.C_take (m:=(x8_3:Int).toNat) hC16 (by omega);have hy16:y313.length=(x8_3:Int).toNat:=(by rw [Ny313.out,List.length_take];omega);rw [← Ny313.out] at hr16;rw [← hy16] at hcut16;have HR316:=aK hr16;have HC316:=aK (show y313.length≤c0 from by omega);clear hr16 hC16 hroom16 hi016 hsz16;have KY16:=aK hy16;clear hy16;replace q16:=eq_true q16)|((with_reducible refine qv2_ (b:=.append) (xs:=#[.tmp 27,.tmp 30]) rfl ?_);at_builtin;refine Kd.qd3_ k79 (w0:=w) w.heap.size rfl (.tmp 27) (.tmp 30) 24 79 (.agg #[(.string ⟨#[]⟩),(.int .i64 0),(.int .i64 0)]) 32 rfl Try.underlying24 info79 rfl (by decide) (by omega) v311 y310 y313 _ _ _ (fun _=>True) (fun _=>False) rfl rfl ?aO ?aR (fun _ _ h=>h) (fun _ h=>h.elim) ?aF ?aB ?aS ?aL ?_;(case aR=>repeat (first|exact (Kd.qn2_ HR316.out HB.out)|(with_reducible refine Kd.qi2_ ?_ _)|(with_reducible refine Kd.qh2_ ?_ _)|(with_reducible refine Kd.C_drew ?_)));(case aB=>exact (by repeat (first|(with_reducible first|exact HB.out|apply qb_|apply qa_|apply qc_|refine qf_ ?_ GE307.out)|exact HB.out)));(case aF=>exact (fun _ _=>trivial));(case aO=>exact (by (with_reducible repeat (first|apply Kd.qq_|apply Kd.qr_|apply Kd.R_drew));exact HO312.out));(case aS=>exact (qk_ (by repeat (first|(with_reducible first|exact HB.out|apply qb_|apply qa_|apply qc_|refine qf_ ?_ GE307.out)|exact HB.out))));(case aL=>have:=LMc12.out;omega);intro v318 w17 ho hb hg hat;rw [← Ny317.out] at ho;have n0_:=aK (qc3_ (g:=gb307) (o:=.cells #[.int .i64 a2_0,.int .i64 a2_1] 77 (0,0)) (by (with_reducible repeat (first|refine qe_ ?_ _|refine qg_ ?_|refine qd_ ?_ _));exact BK307.out) hg (Kd.R_ne HO312.out BK307.out (by decide)));have n1_:=aK (hb);have n2_:=aK (ho);clear BK307;clear HB;clear HO312;have BK307:=n0_;have HB:=n1_;have HO319:=n2_;clear n0_ n1_ n2_;clear ho hb hg hat))
      (try simp only [Act.put,List.setIfInBounds_toArray,List.set_cons_zero,List.set_cons_succ])
      go_cut [44] (fun v44 wc=>∃ (kq:Nat) (x44_12:Bool),v44=.bool x44_12∧Aside0 (qs_.j2 kq l0 a1 x8_3 y317 x44_12 a2_0 a2_1=some (r1,r2))∧Aside0 (kq≤kj3)∧Aside0 (Kd.R k79 79 wc w.heap.size (fun _=>True) v318 y317)∧Aside0 (wc.heap[gb307]?=some (.cells #[.int .i64 a2_0,.int .i64 a2_1] 77 (0,0)))∧Aside0 (Below w.heap.size w wc))
      case first =>
       have H:=HC13.out
       clear HC13
       by_cases c18:x8_3 < (l0.length:Int)
       ·rw [if_pos c18] at H
        have c18b0:decide (x8_3 < (l0.length:Int))=true:=decide_eq_true c18
        clear c18
        (first|rw [c18b0]|(simp only [i64_w,i32_w];rw [c18b0])|skip)
        have H':=aK H
        clear H
        have p320:0≤(x8_3:Int):=of_decide_eq_true (by first|(with_reducible assumption)|assumption)
        have q320:x8_3 < (l0.length:Int):=of_decide_eq_true (by first|(with_reducible assumption)|assumption)
        obtain ⟨ad320,e320,hx320_0,hx320_1,hx320_2⟩:=at_T79 HR0.out x8_3 p320 q320
        cases e320
        replace hx320_0:=(HB.out.cell (World.block_lt_of_cell? w _ hx320_0)).trans hx320_0
        replace hx320_1:=(HB.out.cell (World.block_lt_of_cell? w _ hx320_1)).trans hx320_1
        replace hx320_2:=(HB.out.cell (World.block_lt_of_cell? w _ hx320_2)).trans hx320_2
        replace p320:=eq_true p320
        replace q320:=eq_true q320
        go_wp2
        go_meet
        case rel=>exact ⟨_,((((rd_T79 l0 x8_3).f0).toList == a1.toList)),(by first|rfl|(simp;done)|(simp [*];done)),H',⟨by have:=HJ3.out;first|omega|exact Nat.le_refl _⟩,⟨by (with_reducible repeat (first|apply Kd.qq_|apply Kd.qr_|apply Kd.R_drew));exact HO319.out⟩,⟨by (with_reducible repeat (first|refine qe_ ?_ _|refine qg_ ?_|refine qd_ ?_ _));exact BK307.out⟩,⟨by repeat (first|(with_reducible first|exact HB.out|apply qb_|apply qa_|apply qc_|refine qf_ ?_ GE307.out)|exact HB.out)⟩⟩
       ·rw [if_neg c18] at H
        have c18b0:decide (x8_3 < (l0.length:Int))=false:=decide_eq_false c18
        clear c18
        (first|rw [c18b0]|(simp only [i64_w,i32_w];rw [c18b0])|skip)
        have H':=aK H
        clear H
        go_wp2
        go_meet
        case rel=>exact ⟨_,(false),(by first|rfl|(simp;done)|(simp [*];done)),H',⟨by have:=HJ3.out;first|omega|exact Nat.le_refl _⟩,⟨by (with_reducible repeat (first|apply Kd.qq_|apply Kd.qr_|apply Kd.R_drew));exact HO319.out⟩,⟨by (with_reducible repeat (first|refine qe_ ?_ _|refine qg_ ?_|refine qd_ ?_ _));exact BK307.out⟩,⟨by repeat (first|(with_reducible first|exact HB.out|apply qb_|apply qa_|apply qc_|refine qf_ ?_ GE307.out)|exact HB.out)⟩⟩
      case rest =>
       clear HC13
       try clear c1
       try clear q1
       try clear p2
       try clear p3
       try clear q3
       try clear hx3
       try clear c6
       try clear c6b0
       try clear p6
       try clear c7
       try clear c7b0
       try clear c9
       try clear c10
       try clear c10b0
       try clear c10b1
       try clear c11
       try clear c11b0
       try clear c11b1
       try clear c12
       try clear c15
       try clear q16
       try clear c18
       try clear c18b0
       try clear hx308_0
       try clear hx308_1
       try clear hx308_2
       try clear hx320_0
       try clear hx320_1
       try clear hx320_2
       try clear p2
       try clear p3
       try clear p308
       try clear p320
       try clear p6
       try clear q16
       try clear q3
       try clear q308
       try clear q320
       obtain ⟨kq,x44_12,rfl,HA,HJ12,HO_9,BK307,HB⟩:=hcut
       cases kq with
       | zero=>exact absurd HA.out (by simp [qs_.j2])
       | succ kj12 =>
        have H:=HA.out
        clear HA
        simp only [qs_.j2] at H
        by_cases c19:x44_12=true
        ·subst c19
         have H1:(if 0≤x8_3 then (if x8_3 < (l0.length:Int) then ((qa2_.f kj12 ((rd_T79 l0 x8_3).f1.f0) ((rd_T79 l0 x8_3).f1.f1) a2_0 a2_1).bind fun bt322=>(if bt322.2.2=true then ((qd2_.f bt322.1 bt322.2.1).bind fun t326=>(if t326=true then (if 0≤(wrap64 (x8_3+1)) then (if (wrap64 (x8_3+1))≤(l0.length:Int) then ((some (l0.drop ((wrap64 (x8_3+1)):Int).toNat:List (S79))).bind fun y327=>(if y317.length+y327.length < 4398046511104 then (some ((y317 ++ y327),true)) else (none))) else (none)) else (none)) else (if y317.length < 4398046511104 then ((some (y317 ++ [(⟨a1,(⟨bt322.1,bt322.2.1⟩:S77)⟩:S79)]:List (S79))).bind fun y334=>(if 0≤(wrap64 (x8_3+1)) then (if (wrap64 (x8_3+1))≤(l0.length:Int) then ((some (l0.drop ((wrap64 (x8_3+1)):Int).toNat:List (S79))).bind fun y337=>(if y334.length+y337.length < 4398046511104 then (some ((y334 ++ y337),true)) else (none))) else (none)) else (none))) else (none)))) else (some (([]:List (S79)),false)))) else (none)) else (none))=some (r1,r2):=by rw [if_pos rfl] at H;exact H
         clear H
         have H:=H1
         clear H1
         by_cases c20:0≤x8_3
         ·rw [if_pos c20] at H
          have c20b0:decide (0≤x8_3)=true:=decide_eq_true c20
          clear c20
          by_cases c21:x8_3 < (l0.length:Int)
          ·rw [if_pos c21] at H
           have c21b0:decide (x8_3 < (l0.length:Int))=true:=decide_eq_true c21
           clear c21
           replace H:=Option.bind_eq_some_iff.mp H
           obtain ⟨⟨t322,t323,t324⟩,A220,H⟩:=H
           replace H:(if t324=true then ((qd2_.f t322 t323).bind fun t326=>(if t326=true then (if 0≤(wrap64 (x8_3+1)) then (if (wrap64 (x8_3+1))≤(l0.length:Int) then ((some (l0.drop ((wrap64 (x8_3+1)):Int).toNat:List (S79))).bind fun y327=>(if y317.length+y327.length < 4398046511104 then (some ((y317 ++ y327),true)) else (none))) else (none)) else (none)) else (if y317.length < 4398046511104 then ((some (y317 ++ [(⟨a1,(⟨t322,t323⟩:S77)⟩:S79)]:List (S79))).bind fun y334=>(if 0≤(wrap64 (x8_3+1)) then (if (wrap64 (x8_3+1))≤(l0.length:Int) then ((some (l0.drop ((wrap64 (x8_3+1)):Int).toNat:List (S79))).bind fun y337=>(if y334.length+y337.length < 4398046511104 then (some ((y334 ++ y337),true)) else (none))) else (none)) else (none))) else (none)))) else (some (([]:List (S79)),false)))=some (r1,r2):=H
           have A22:=aK A220
           clear A220
           by_cases c23:t324=true
           ·subst c23
            have H1:((qd2_.f t322 t323).bind fun t326=>(if t326=true then (if 0≤(wrap64 (x8_3+1)) then (if (wrap64 (x8_3+1))≤(l0.length:Int) then ((some (l0.drop ((wrap64 (x8_3+1)):Int).toNat:List (S79))).bind fun y327=>(if y317.length+y327.length < 4398046511104 then (some ((y317 ++ y327),true)) else (none))) else (none)) else (none)) else (if y317.length < 4398046511104 then ((some (y317 ++ [(⟨a1,(⟨t322,t323⟩:S77)⟩:S79)]:List (S79))).bind fun y334=>(if 0≤(wrap64 (x8_3+1)) then (if (wrap64 (x8_3+1))≤(l0.length:Int) then ((some (l0.drop ((wrap64 (x8_3+1)):Int).toNat:List (S79))).bind fun y337=>(if y334.length+y337.length < 4398046511104 then (some ((y334 ++ y337),true)) else (none))) else (none)) else (none))) else (none))))=some (r1,r2):=by rw [if_pos rfl] at H;exact H
            clear H
            have H:=H1
            clear H1
            replace H:=Option.bind_eq_some_iff.mp H
            obtain ⟨t326,A240,H⟩:=H
            replace H:(if t326=true then (if 0≤(wrap64 (x8_3+1)) then (if (wrap64 (x8_3+1))≤(l0.length:Int) then ((some (l0.drop ((wrap64 (x8_3+1)):Int).toNat:List (S79))).bind fun y327=>(if y317.length+y327.length < 4398046511104 then (some ((y317 ++ y327),true)) else (none))) else (none)) else (none)) else (if y317.length < 4398046511104 then ((some (y317 ++ [(⟨a1,(⟨t322,t323⟩:S77)⟩:S79)]:List (S79))).bind fun y334=>(if 0≤(wrap64 (x8_3+1)) then (if (wrap64 (x8_3+1))≤(l0.length:Int) then ((some (l0.drop ((wrap64 (x8_3+1)):Int).toNat:List (S79))).bind fun y337=>(if y334.length+y337.length < 4398046511104 then (some ((y334 ++ y337),true)) else (none))) else (none)) else (none))) else (none)))=some (r1,r2):=H
            have A24:=aK A240
            clear A240
            by_cases c25:t326=true
            ·subst c25
             have H1:(if 0≤(wrap64 (x8_3+1)) then (if (wrap64 (x8_3+1))≤(l0.length:Int) then ((some (l0.drop ((wrap64 (x8_3+1)):Int).toNat:List (S79))).bind fun y327=>(if y317.length+y327.length < 4398046511104 then (some ((y317 ++ y327),true)) else (none))) else (none)) else (none))=some (r1,r2):=by rw [if_pos rfl] at H;exact H
             clear H
             have H:=H1
             clear H1
             obtain ⟨ji26,hji26⟩:∃ j_:Int,(wrap64 (x8_3+1))=j_:=⟨_,rfl⟩
             replace H:(if 0≤(ji26) then (if (ji26)≤(l0.length:Int) then ((some (l0.drop ((ji26):Int).toNat:List (S79))).bind fun y327=>(if y317.length+y327.length < 4398046511104 then (some ((y317 ++ y327),true)) else (none))) else (none)) else (none))=some (r1,r2):=by first|(rw [hji26] at H;exact H)|(simp only [hji26] at H ⊢;exact H)
             (try rw [hji26] at A22)
             (try rw [hji26] at A24)
             have hji26w:(IntKind.i64.wrap (x8_3+1))=ji26:=(i64_w _).trans hji26
             by_cases c27:0≤(ji26)
             ·rw [if_pos c27] at H
              have c27b0:=eq_true c27
              have c27b1:decide (0≤(ji26))=true:=decide_eq_true c27
              clear c27
              by_cases c28:(ji26)≤(l0.length:Int)
              ·rw [if_pos c28] at H
               have c28b0:=eq_true c28
               have c28b1:decide ((ji26)≤(l0.length:Int))=true:=decide_eq_true c28
               clear c28
               obtain ⟨y327,hy327⟩:∃ y_:List (S79),y_=(l0.drop ((ji26):Int).toNat):=⟨_,rfl⟩
               replace H:(if y317.length+y327.length < 4398046511104 then (some ((y317 ++ y327),true)) else (none))=some (r1,r2):=by first|(rw [hy327];with_reducible exact H)|(have H2_:=(Option.bind_some _ _).symm.trans H;rw [hy327];with_reducible exact H2_)|(have H2_:=(Option.bind_some _ _).symm.trans H;with_reducible exact H2_)|with_reducible exact H|(rw [hy327];exact H)|exact H
               have Ny327:=aK hy327
               clear hy327
               by_cases c29:y317.length+y327.length < 4398046511104
               ·rw [if_pos c29] at H
                have LMc29:=aK c29
                clear c29
                obtain ⟨y331,hy331⟩:∃ y_:List (S79),y_=(y317 ++ y327):=⟨_,rfl⟩
                replace H:(some (y331,true))=some (r1,r2):=by first|(rw [hy331];with_reducible exact H)|(have H2_:=(Option.bind_some _ _).symm.trans H;rw [hy331];with_reducible exact H2_)|(have H2_:=(Option.bind_some _ _).symm.trans H;with_reducible exact H2_)|with_reducible exact H|(rw [hy331];exact H)|exact H
                have Ny331:=aK hy331
                clear hy331
                simp only [Option.some.injEq,Prod.mk.injEq] at H
                obtain ⟨rfl,rfl⟩:=H
                try go_wp2
                have n0_:=aK (Kd.R_drew HO_9.out)
                have n1_:=aK (qg_ BK307.out)
                have n2_:=aK (qc_ HB.out)
                clear HO_9
                clear BK307
                clear HB
                have HO_9:=n0_
                have BK307:=n1_
                have HB:=n2_
                clear n0_ n1_ n2_
                have p321:0≤(x8_3:Int):=of_decide_eq_true (by first|(with_reducible assumption)|assumption)
                have q321:x8_3 < (l0.length:Int):=of_decide_eq_true (by first|(with_reducible assumption)|assumption)
                obtain ⟨ad321,e321,hx321_0,hx321_1,hx321_2⟩:=at_T79 HR0.out x8_3 p321 q321
                have hw321_2:=hx321_2
                have hw321_1:=hx321_1
                have hw321_0:=hx321_0
                cases e321
                replace hx321_0:=(HB.out.cell (World.block_lt_of_cell? w _ hx321_0)).trans hx321_0
                replace hx321_1:=(HB.out.cell (World.block_lt_of_cell? w _ hx321_1)).trans hx321_1
                replace hx321_2:=(HB.out.cell (World.block_lt_of_cell? w _ hx321_2)).trans hx321_2
                replace p321:=eq_true p321
                replace q321:=eq_true q321
                refine start_ (n:=13) (S:=fun w'=>w'.cell? ⟨gb307,0,none⟩=some (.int .i64 a2_0)∧w'.cell? ⟨gb307,1,none⟩=some (.int .i64 a2_1)∧w'.cell? (ad321.add ((x8_3).toNat * 3))=some (.string ((rd_T79 l0 x8_3).f0))∧w'.cell? ⟨(ad321.add ((x8_3).toNat * 3)).block,(ad321.add ((x8_3).toNat * 3)).off+1,none⟩=some (.int .i64 ((rd_T79 l0 x8_3).f1.f0))∧w'.cell? ⟨(ad321.add ((x8_3).toNat * 3)).block,(ad321.add ((x8_3).toNat * 3)).off+2,none⟩=some (.int .i64 ((rd_T79 l0 x8_3).f1.f1))) (ds:=[]) #[fF,fF,fF,fF,fF,fF,fF,fF,fF,fF,fF,fF,fF] (by kernel_rfl) rfl rfl ⟨(qi_ BK307.out 0).trans rfl,(qi_ BK307.out 1).trans rfl,((HB.out.cell (World.block_lt_of_cell? w _ hw321_0)).trans hw321_0),((HB.out.cell (World.block_lt_of_cell? w _ hw321_1)).trans hw321_1),((HB.out.cell (World.block_lt_of_cell? w _ hw321_2)).trans hw321_2)⟩ (fun hHeld=>?_);refine with_tabW qs_.tab6 qs_.bits6 (fun HT_ HW_=>?_)
                generalize wc.drew=w30 at HO_9 BK307 HB hx321_0 hx321_1 hx321_2 hHeld ⊢
                refine pure_ (i:=0) (N:=some 46) (v:=?_) (a':=?_) #[tT,fF,fF,fF,fF,fF,fF,fF,fF,fF,fF,fF,fF] rfl rfl (any_of HT_.out (by kernel_rfl)) (fun _ _ _ h=>h) (Or.inl ⟨by rfl,?_⟩) ?_ ?_
                rotate_left
                ·intro w'
                 go_simp
                 with_reducible rfl
                rotate_left
                ·simp only [Act.put,List.setIfInBounds_toArray,List.set_cons_zero,List.set_cons_succ,i64_w,i32_w]
                 rfl
                refine pure_ (i:=1) (N:=some 47) (v:=?_) (a':=?_) #[tT,tT,fF,fF,fF,fF,fF,fF,fF,fF,fF,fF,fF] rfl rfl (any_of HT_.out (by kernel_rfl)) (fun _ _ _ h=>h) (Or.inl ⟨by rfl,?_⟩) ?_ ?_
                rotate_left
                ·intro w'
                 go_simp
                 with_reducible rfl
                rotate_left
                ·simp only [Act.put,List.setIfInBounds_toArray,List.set_cons_zero,List.set_cons_succ,i64_w,i32_w]
                 rfl
                refine pure_ (i:=2) (N:=some 48) (v:=?_) (a':=?_) #[tT,tT,tT,fF,fF,fF,fF,fF,fF,fF,fF,fF,fF] rfl rfl (any_of HT_.out (by kernel_rfl)) (fun _ _ _ h=>h) (Or.inl ⟨by rfl,?_⟩) ?_ ?_
                rotate_left
                ·intro w'
                 go_simp
                 with_reducible rfl
                rotate_left
                ·simp only [Act.put,List.setIfInBounds_toArray,List.set_cons_zero,List.set_cons_succ,i64_w,i32_w]
                 rfl
                refine pure_ (i:=3) (N:=some 49) (v:=?_) (a':=?_) #[tT,tT,tT,tT,fF,fF,fF,fF,fF,fF,fF,fF,fF] rfl rfl (any_of HT_.out (by kernel_rfl)) (fun _ _ _ h=>h) (Or.inl ⟨by rfl,?_⟩) ?_ ?_
                rotate_left
                ·intro w'
                 go_simp
                 with_reducible rfl
                rotate_left
                ·simp only [Act.put,List.setIfInBounds_toArray,List.set_cons_zero,List.set_cons_succ,i64_w,i32_w]
                 rfl
                refine take_ (i:=4) (N:=some 50) (v:=?_) (a':=?_) #[tT,tT,tT,tT,tT,fF,fF,fF,fF,fF,fF,fF,fF] rfl rfl (take_ofW HT_.out HW_.out (by kernel_rfl)) (fun _ _ _ h=>h) (Or.inl ⟨by rfl,?_⟩) hHeld ?_ ?_
                rotate_left
                ·rintro w' ⟨s0,s1,s2,s3,s4⟩
                 go_simp
                 with_reducible rfl
                rotate_left
                ·simp only [Act.put,List.setIfInBounds_toArray,List.set_cons_zero,List.set_cons_succ,i64_w,i32_w]
                 rfl
                refine take_ (i:=5) (N:=some 51) (v:=?_) (a':=?_) #[tT,tT,tT,tT,tT,tT,fF,fF,fF,fF,fF,fF,fF] rfl rfl (take_ofW HT_.out HW_.out (by kernel_rfl)) (fun _ _ _ h=>h) (Or.inl ⟨by rfl,?_⟩) hHeld ?_ ?_
                rotate_left
                ·rintro w' ⟨s0,s1,s2,s3,s4⟩
                 go_simp
                 with_reducible rfl
                rotate_left
                ·simp only [Act.put,List.setIfInBounds_toArray,List.set_cons_zero,List.set_cons_succ,i64_w,i32_w]
                 rfl
                refine join_ (σ:=Nat) 2 #[tT,tT,tT,tT,tT,tT,tT,tT,tT,tT,tT,fF,fF] (fun s_=>[(52,.tuple #[.agg #[.int .i64 t322,.int .i64 t323],.bool true]),(10,.pointer (some ⟨s_,0,none⟩)),(45,.tuple #[.agg #[.int .i64 t322,.int .i64 t323],.bool true]),(53,.agg #[.int .i64 t322,.int .i64 t323]),(54,.bool true)]) (fun s_ w'=>(w'.cell? ⟨gb307,0,none⟩=some (.int .i64 a2_0)∧w'.cell? ⟨gb307,1,none⟩=some (.int .i64 a2_1)∧w'.cell? (ad321.add ((x8_3).toNat * 3))=some (.string ((rd_T79 l0 x8_3).f0))∧w'.cell? ⟨(ad321.add ((x8_3).toNat * 3)).block,(ad321.add ((x8_3).toNat * 3)).off+1,none⟩=some (.int .i64 ((rd_T79 l0 x8_3).f1.f0))∧w'.cell? ⟨(ad321.add ((x8_3).toNat * 3)).block,(ad321.add ((x8_3).toNat * 3)).off+2,none⟩=some (.int .i64 ((rd_T79 l0 x8_3).f1.f1)))∧(Kd.R k79 79 w' w.heap.size (fun _=>True) v318 y317)∧(w'.heap[gb307]?=some (.cells #[.int .i64 a2_0,.int .i64 a2_1] 77 (0,0)))∧(w'.heap[s_]?=some (.cells #[.int .i64 0,.int .i64 0] 77 (0,0)))∧(w.heap.size≤s_)∧(w.heap.size≤s_)∧(gb307 ≠ s_)∧(s_ ≠ gb307)∧(Below w.heap.size w w')) ?_ ?_
                rotate_left
                ·intro hCont
                 refine two_ (i:=6) (j:=10) (Ni:=some 52) (Nj:=some 10) #[tT,tT,tT,tT,tT,tT,tT,fF,fF,fF,fF,fF,fF] #[tT,tT,tT,tT,tT,tT,fF,fF,fF,fF,tT,fF,fF] rfl rfl rfl rfl (two_of HT_.out (by kernel_rfl)) (by decide) (by decide) (fun K hK=>?_) (fun K hK=>?_)
                 ·skip
                  refine goes_ Try.func187 (by kernel_rfl) rfl #[.agg #[.int .i64 ((rd_T79 l0 x8_3).f1.f0),.int .i64 ((rd_T79 l0 x8_3).f1.f1)],.agg #[.int .i64 a2_0,.int .i64 a2_1]] (by rfl) rfl rfl (by (try simp only [List.map_toArray,List.map_cons,List.map_nil]);first|done|rfl|(simp only [List.length_drop,List.length_take];rfl)) ?_
                  with_reducible refine (qa2_.calls kj12 ((rd_T79 l0 x8_3).f1.f0) ((rd_T79 l0 x8_3).f1.f1) a2_0 a2_1 t322 t323 true _ A22.out).mono ?_
                  rintro e w31 ⟨rfl,hb⟩
                  refine ⟨_,rfl,?_⟩
                  have n0_:=aK (Kd.qj1_ (by (with_reducible repeat (first|apply Kd.qq_|apply Kd.qr_|apply Kd.R_drew));exact HO_9.out) hb)
                  have n1_:=aK (ql_ (g:=gb307) (o:=.cells #[.int .i64 a2_0,.int .i64 a2_1] 77 (0,0)) (by (with_reducible repeat (first|refine qe_ ?_ _|refine qg_ ?_|refine qd_ ?_ _));exact BK307.out) hb)
                  have n2_:=aK (qm_ (by repeat (first|(with_reducible first|exact HB.out|apply qb_|apply qa_|apply qc_|refine qf_ ?_ GE307.out)|exact HB.out)) hb)
                  clear HO_9
                  clear BK307
                  clear HB
                  have HO_9:=n0_
                  have BK307:=n1_
                  have HB:=n2_
                  clear n0_ n1_ n2_
                  (try clear hb)
                  (try clear hb2)
                  (try clear hk)
                  (try clear hi)
                  refine hK.out _ _ ⟨(qi_ BK307.out 0).trans rfl,(qi_ BK307.out 1).trans rfl,((HB.out.cell (World.block_lt_of_cell? w _ hw321_0)).trans hw321_0),((HB.out.cell (World.block_lt_of_cell? w _ hw321_1)).trans hw321_1),((HB.out.cell (World.block_lt_of_cell? w _ hw321_2)).trans hw321_2)⟩ (fun hHeld=>?_)
                  clear hK K
                  refine norm_ (a':=?_) ?_ ?_
                  rotate_left
                  ·show Act.put _ (some 52) _=_
                   simp only [Act.put,List.setIfInBounds_toArray,List.set_cons_zero,List.set_cons_succ,i64_w,i32_w]
                   rfl
                  refine pure_ (i:=7) (N:=some 45) (v:=?_) (a':=?_) #[tT,tT,tT,tT,tT,tT,tT,tT,fF,fF,fF,fF,fF] rfl rfl (any_of HT_.out (by kernel_rfl)) (fun _ _ _ h=>h) (Or.inl ⟨by rfl,?_⟩) ?_ ?_
                  rotate_left
                  ·intro w'
                   go_simp
                   with_reducible rfl
                  rotate_left
                  ·simp only [Act.put,List.setIfInBounds_toArray,List.set_cons_zero,List.set_cons_succ,i64_w,i32_w]
                   rfl
                  refine pure_ (i:=8) (N:=some 53) (v:=?_) (a':=?_) #[tT,tT,tT,tT,tT,tT,tT,tT,tT,fF,fF,fF,fF] rfl rfl (any_of HT_.out (by kernel_rfl)) (fun _ _ _ h=>h) (Or.inl ⟨by rfl,?_⟩) ?_ ?_
                  rotate_left
                  ·intro w'
                   go_simp
                   with_reducible rfl
                  rotate_left
                  ·simp only [Act.put,List.setIfInBounds_toArray,List.set_cons_zero,List.set_cons_succ,i64_w,i32_w]
                   rfl
                  refine pure_ (i:=9) (N:=some 54) (v:=?_) (a':=?_) #[tT,tT,tT,tT,tT,tT,tT,tT,tT,tT,fF,fF,fF] rfl rfl (any_of HT_.out (by kernel_rfl)) (fun _ _ _ h=>h) (Or.inl ⟨by rfl,?_⟩) ?_ ?_
                  rotate_left
                  ·intro w'
                   go_simp
                   with_reducible rfl
                  rotate_left
                  ·simp only [Act.put,List.setIfInBounds_toArray,List.set_cons_zero,List.set_cons_succ,i64_w,i32_w]
                   rfl
                  refine one_ (i:=10) (N:=some 10) #[tT,tT,tT,tT,tT,tT,tT,tT,tT,tT,tT,fF,fF] rfl rfl (one_of HT_.out (by kernel_rfl)) (by decide) (fun K hK=>?_)
                  refine box_step ?hg (N:=10) ?hd (cs:=#[.int .i64 0,.int .i64 0]) (t:=77) ?hr ?_;(case hd=>rfl);(case hg=>rfl);(case hr=>first|(go_simp;done)|(go_simp;rfl))
                  intro gb325 hg w32 hbox hb
                  have n0_:=aK (Kd.qj1_ (by (with_reducible repeat (first|apply Kd.qq_|apply Kd.qr_|apply Kd.R_drew));exact HO_9.out) hb)
                  have n1_:=aK (ql_ (g:=gb307) (o:=.cells #[.int .i64 a2_0,.int .i64 a2_1] 77 (0,0)) (by (with_reducible repeat (first|refine qe_ ?_ _|refine qg_ ?_|refine qd_ ?_ _));exact BK307.out) hb)
                  have n2_:=aK (qm_ (by repeat (first|(with_reducible first|exact HB.out|apply qb_|apply qa_|apply qc_|refine qf_ ?_ GE307.out)|exact HB.out)) hb)
                  have n3_:=aK (hbox)
                  have n4_:=aK ((by rw [hg];exact (qk_ (by repeat (first|(with_reducible first|exact HB.out|apply qb_|apply qa_|apply qc_|refine qf_ ?_ GE307.out)|exact HB.out))):w.heap.size≤gb325))
                  have n5_:=aK ((by rw [hg];exact (qk_ (by repeat (first|(with_reducible first|exact HB.out|apply qb_|apply qa_|apply qc_|refine qf_ ?_ GE307.out)|exact HB.out))):w.heap.size≤gb325))
                  have n6_:=aK ((by rw [hg];exact Nat.ne_of_lt (blk_lt (g:=gb307) (o:=.cells #[.int .i64 a2_0,.int .i64 a2_1] 77 (0,0)) (by (with_reducible repeat (first|refine qe_ ?_ _|refine qg_ ?_|refine qd_ ?_ _));exact BK307.out)):gb307 ≠ gb325))
                  have n7_:=aK ((by rw [hg];exact Nat.ne_of_gt (blk_lt (g:=gb307) (o:=.cells #[.int .i64 a2_0,.int .i64 a2_1] 77 (0,0)) (by (with_reducible repeat (first|refine qe_ ?_ _|refine qg_ ?_|refine qd_ ?_ _));exact BK307.out)):gb325 ≠ gb307))
                  clear HO_9
                  clear BK307
                  clear HB
                  have HO_9:=n0_
                  have BK307:=n1_
                  have HB:=n2_
                  have BK325:=n3_
                  have GW325:=n4_
                  have GE325:=n5_
                  have NB307_325:=n6_
                  have NB325_307:=n7_
                  clear n0_ n1_ n2_ n3_ n4_ n5_ n6_ n7_
                  clear hb hbox hg
                  refine hK.out _ _ ⟨(qi_ BK307.out 0).trans rfl,(qi_ BK307.out 1).trans rfl,((HB.out.cell (World.block_lt_of_cell? w _ hw321_0)).trans hw321_0),((HB.out.cell (World.block_lt_of_cell? w _ hw321_1)).trans hw321_1),((HB.out.cell (World.block_lt_of_cell? w _ hw321_2)).trans hw321_2)⟩ (fun hHeld=>?_)
                  clear hK K
                  refine norm_ (a':=?_) ?_ ?_
                  rotate_left
                  ·show Act.put _ (some 10) _=_
                   simp only [Act.put,List.setIfInBounds_toArray,List.set_cons_zero,List.set_cons_succ,i64_w,i32_w]
                   rfl
                  exact norm_ (by simp only [putAll,Act.put,List.setIfInBounds_toArray,List.set_cons_zero,List.set_cons_succ]) (hCont (gb325) _ ⟨hHeld,(by (with_reducible repeat (first|apply Kd.qq_|apply Kd.qr_|apply Kd.R_drew));exact HO_9.out),(by (with_reducible repeat (first|refine qe_ ?_ _|refine qg_ ?_|refine qd_ ?_ _));exact BK307.out),(by (with_reducible repeat (first|refine qe_ ?_ _|refine qg_ ?_|refine qd_ ?_ _));exact BK325.out),GW325.out,GE325.out,NB307_325.out,NB325_307.out,(by repeat (first|(with_reducible first|exact HB.out|apply qb_|apply qa_|apply qc_|refine qf_ ?_ GE307.out|refine qf_ ?_ GE325.out)|exact HB.out))⟩)
                 ·skip
                  refine box_step ?hg (N:=10) ?hd (cs:=#[.int .i64 0,.int .i64 0]) (t:=77) ?hr ?_;(case hd=>rfl);(case hg=>rfl);(case hr=>first|(go_simp;done)|(go_simp;rfl))
                  intro gb325 hg w31 hbox hb
                  have n0_:=aK (Kd.qj1_ (by (with_reducible repeat (first|apply Kd.qq_|apply Kd.qr_|apply Kd.R_drew));exact HO_9.out) hb)
                  have n1_:=aK (ql_ (g:=gb307) (o:=.cells #[.int .i64 a2_0,.int .i64 a2_1] 77 (0,0)) (by (with_reducible repeat (first|refine qe_ ?_ _|refine qg_ ?_|refine qd_ ?_ _));exact BK307.out) hb)
                  have n2_:=aK (qm_ (by repeat (first|(with_reducible first|exact HB.out|apply qb_|apply qa_|apply qc_|refine qf_ ?_ GE307.out)|exact HB.out)) hb)
                  have n3_:=aK (hbox)
                  have n4_:=aK ((by rw [hg];exact (qk_ (by repeat (first|(with_reducible first|exact HB.out|apply qb_|apply qa_|apply qc_|refine qf_ ?_ GE307.out)|exact HB.out))):w.heap.size≤gb325))
                  have n5_:=aK ((by rw [hg];exact (qk_ (by repeat (first|(with_reducible first|exact HB.out|apply qb_|apply qa_|apply qc_|refine qf_ ?_ GE307.out)|exact HB.out))):w.heap.size≤gb325))
                  have n6_:=aK ((by rw [hg];exact Nat.ne_of_lt (blk_lt (g:=gb307) (o:=.cells #[.int .i64 a2_0,.int .i64 a2_1] 77 (0,0)) (by (with_reducible repeat (first|refine qe_ ?_ _|refine qg_ ?_|refine qd_ ?_ _));exact BK307.out)):gb307 ≠ gb325))
                  have n7_:=aK ((by rw [hg];exact Nat.ne_of_gt (blk_lt (g:=gb307) (o:=.cells #[.int .i64 a2_0,.int .i64 a2_1] 77 (0,0)) (by (with_reducible repeat (first|refine qe_ ?_ _|refine qg_ ?_|refine qd_ ?_ _));exact BK307.out)):gb325 ≠ gb307))
                  clear HO_9
                  clear BK307
                  clear HB
                  have HO_9:=n0_
                  have BK307:=n1_
                  have HB:=n2_
                  have BK325:=n3_
                  have GW325:=n4_
                  have GE325:=n5_
                  have NB307_325:=n6_
                  have NB325_307:=n7_
                  clear n0_ n1_ n2_ n3_ n4_ n5_ n6_ n7_
                  clear hb hbox hg
                  refine hK.out _ _ ⟨(qi_ BK307.out 0).trans rfl,(qi_ BK307.out 1).trans rfl,((HB.out.cell (World.block_lt_of_cell? w _ hw321_0)).trans hw321_0),((HB.out.cell (World.block_lt_of_cell? w _ hw321_1)).trans hw321_1),((HB.out.cell (World.block_lt_of_cell? w _ hw321_2)).trans hw321_2)⟩ (fun hHeld=>?_)
                  clear hK K
                  refine norm_ (a':=?_) ?_ ?_
                  rotate_left
                  ·show Act.put _ (some 10) _=_
                   simp only [Act.put,List.setIfInBounds_toArray,List.set_cons_zero,List.set_cons_succ,i64_w,i32_w]
                   rfl
                  refine one_ (i:=6) (N:=some 52) #[tT,tT,tT,tT,tT,tT,tT,fF,fF,fF,tT,fF,fF] rfl rfl (one_of HT_.out (by kernel_rfl)) (by decide) (fun K hK=>?_)
                  refine goes_ Try.func187 (by kernel_rfl) rfl #[.agg #[.int .i64 ((rd_T79 l0 x8_3).f1.f0),.int .i64 ((rd_T79 l0 x8_3).f1.f1)],.agg #[.int .i64 a2_0,.int .i64 a2_1]] (by rfl) rfl rfl (by (try simp only [List.map_toArray,List.map_cons,List.map_nil]);first|done|rfl|(simp only [List.length_drop,List.length_take];rfl)) ?_
                  with_reducible refine (qa2_.calls kj12 ((rd_T79 l0 x8_3).f1.f0) ((rd_T79 l0 x8_3).f1.f1) a2_0 a2_1 t322 t323 true _ A22.out).mono ?_
                  rintro e w32 ⟨rfl,hb⟩
                  refine ⟨_,rfl,?_⟩
                  have n0_:=aK (Kd.qj1_ (by (with_reducible repeat (first|apply Kd.qq_|apply Kd.qr_|apply Kd.R_drew));exact HO_9.out) hb)
                  have n1_:=aK (ql_ (g:=gb307) (o:=.cells #[.int .i64 a2_0,.int .i64 a2_1] 77 (0,0)) (by (with_reducible repeat (first|refine qe_ ?_ _|refine qg_ ?_|refine qd_ ?_ _));exact BK307.out) hb)
                  have n2_:=aK (ql_ (g:=gb325) (o:=.cells #[.int .i64 0,.int .i64 0] 77 (0,0)) (by (with_reducible repeat (first|refine qe_ ?_ _|refine qg_ ?_|refine qd_ ?_ _));exact BK325.out) hb)
                  have n3_:=aK (qm_ (by repeat (first|(with_reducible first|exact HB.out|apply qb_|apply qa_|apply qc_|refine qf_ ?_ GE307.out|refine qf_ ?_ GE325.out)|exact HB.out)) hb)
                  clear HO_9
                  clear BK307
                  clear BK325
                  clear HB
                  have HO_9:=n0_
                  have BK307:=n1_
                  have BK325:=n2_
                  have HB:=n3_
                  clear n0_ n1_ n2_ n3_
                  (try clear hb)
                  (try clear hb2)
                  (try clear hk)
                  (try clear hi)
                  refine hK.out _ _ ⟨(qi_ BK307.out 0).trans rfl,(qi_ BK307.out 1).trans rfl,((HB.out.cell (World.block_lt_of_cell? w _ hw321_0)).trans hw321_0),((HB.out.cell (World.block_lt_of_cell? w _ hw321_1)).trans hw321_1),((HB.out.cell (World.block_lt_of_cell? w _ hw321_2)).trans hw321_2)⟩ (fun hHeld=>?_)
                  clear hK K
                  refine norm_ (a':=?_) ?_ ?_
                  rotate_left
                  ·show Act.put _ (some 52) _=_
                   simp only [Act.put,List.setIfInBounds_toArray,List.set_cons_zero,List.set_cons_succ,i64_w,i32_w]
                   rfl
                  refine pure_ (i:=7) (N:=some 45) (v:=?_) (a':=?_) #[tT,tT,tT,tT,tT,tT,tT,tT,fF,fF,tT,fF,fF] rfl rfl (any_of HT_.out (by kernel_rfl)) (fun _ _ _ h=>h) (Or.inl ⟨by rfl,?_⟩) ?_ ?_
                  rotate_left
                  ·intro w'
                   go_simp
                   with_reducible rfl
                  rotate_left
                  ·simp only [Act.put,List.setIfInBounds_toArray,List.set_cons_zero,List.set_cons_succ,i64_w,i32_w]
                   rfl
                  refine pure_ (i:=8) (N:=some 53) (v:=?_) (a':=?_) #[tT,tT,tT,tT,tT,tT,tT,tT,tT,fF,tT,fF,fF] rfl rfl (any_of HT_.out (by kernel_rfl)) (fun _ _ _ h=>h) (Or.inl ⟨by rfl,?_⟩) ?_ ?_
                  rotate_left
                  ·intro w'
                   go_simp
                   with_reducible rfl
                  rotate_left
                  ·simp only [Act.put,List.setIfInBounds_toArray,List.set_cons_zero,List.set_cons_succ,i64_w,i32_w]
                   rfl
                  refine pure_ (i:=9) (N:=some 54) (v:=?_) (a':=?_) #[tT,tT,tT,tT,tT,tT,tT,tT,tT,tT,tT,fF,fF] rfl rfl (any_of HT_.out (by kernel_rfl)) (fun _ _ _ h=>h) (Or.inl ⟨by rfl,?_⟩) ?_ ?_
                  rotate_left
                  ·intro w'
                   go_simp
                   with_reducible rfl
                  rotate_left
                  ·simp only [Act.put,List.setIfInBounds_toArray,List.set_cons_zero,List.set_cons_succ,i64_w,i32_w]
                   rfl
                  exact norm_ (by simp only [putAll,Act.put,List.setIfInBounds_toArray,List.set_cons_zero,List.set_cons_succ]) (hCont (gb325) _ ⟨hHeld,(by (with_reducible repeat (first|apply Kd.qq_|apply Kd.qr_|apply Kd.R_drew));exact HO_9.out),(by (with_reducible repeat (first|refine qe_ ?_ _|refine qg_ ?_|refine qd_ ?_ _));exact BK307.out),(by (with_reducible repeat (first|refine qe_ ?_ _|refine qg_ ?_|refine qd_ ?_ _));exact BK325.out),GW325.out,GE325.out,NB307_325.out,NB325_307.out,(by repeat (first|(with_reducible first|exact HB.out|apply qb_|apply qa_|apply qc_|refine qf_ ?_ GE307.out|refine qf_ ?_ GE325.out)|exact HB.out))⟩)
                rintro gb325 w33 ⟨hS_,h0_,h1_,h2_,h3_,h4_,h5_,h6_,h7_⟩
                have n0_:Aside0 (Kd.R k79 79 w33 w.heap.size (fun _=>True) v318 y317):=⟨h0_⟩
                have n1_:Aside0 (w33.heap[gb307]?=some (.cells #[.int .i64 a2_0,.int .i64 a2_1] 77 (0,0))):=⟨h1_⟩
                have n2_:Aside0 (w33.heap[gb325]?=some (.cells #[.int .i64 0,.int .i64 0] 77 (0,0))):=⟨h2_⟩
                have n3_:Aside0 (w.heap.size≤gb325):=⟨h3_⟩
                have n4_:Aside0 (w.heap.size≤gb325):=⟨h4_⟩
                have n5_:Aside0 (gb307 ≠ gb325):=⟨h5_⟩
                have n6_:Aside0 (gb325 ≠ gb307):=⟨h6_⟩
                have n7_:Aside0 (Below w.heap.size w w33):=⟨h7_⟩
                clear HO_9
                clear BK307
                clear HB
                clear h0_ h1_ h2_ h3_ h4_ h5_ h6_ h7_
                have HO_9:=n0_
                have BK307:=n1_
                have BK325:=n2_
                have GW325:=n3_
                have GE325:=n4_
                have NB307_325:=n5_
                have NB325_307:=n6_
                have HB:=n7_
                clear n0_ n1_ n2_ n3_ n4_ n5_ n6_ n7_
                have hHeld:w33.cell? ⟨gb307,0,none⟩=some (.int .i64 a2_0)∧w33.cell? ⟨gb307,1,none⟩=some (.int .i64 a2_1)∧w33.cell? (ad321.add ((x8_3).toNat * 3))=some (.string ((rd_T79 l0 x8_3).f0))∧w33.cell? ⟨(ad321.add ((x8_3).toNat * 3)).block,(ad321.add ((x8_3).toNat * 3)).off+1,none⟩=some (.int .i64 ((rd_T79 l0 x8_3).f1.f0))∧w33.cell? ⟨(ad321.add ((x8_3).toNat * 3)).block,(ad321.add ((x8_3).toNat * 3)).off+2,none⟩=some (.int .i64 ((rd_T79 l0 x8_3).f1.f1)):=hS_
                refine norm_ (a':=?_) ?_ ?_
                rotate_left
                ·simp only [putAll,Act.put,List.setIfInBounds_toArray,List.set_cons_zero,List.set_cons_succ]
                 rfl
                refine one_ (i:=11) (N:=none) #[tT,tT,tT,tT,tT,tT,tT,tT,tT,tT,tT,tT,fF] rfl rfl (one_of HT_.out (by kernel_rfl)) (by decide) (fun K hK=>?_)
                have hs34:w33.cell? ⟨gb325,0,none⟩=some (.int .i64 0):=(qi_ BK325.out 0).trans rfl
                have hfs34:=qh_ BK325.out 0
                have hns34_0:=NB307_325.out
                have hms34_0:=NB325_307.out
                have hs35:w33.cell? ⟨gb325,1,none⟩=some (.int .i64 0):=(qi_ BK325.out 1).trans rfl
                have hfs35:=qh_ BK325.out 1
                have hns35_0:=NB307_325.out
                have hms35_0:=NB325_307.out
                refine skip_ (w1:=?_) (by rfl) rfl ?_ ?_
                rotate_left
                ·go_simp
                 rfl
                refine hK.out _ _ ⟨((cell_far (p:=⟨gb325,_,none⟩) NB307_325.out _).trans (((cell_far (p:=⟨gb325,_,none⟩) NB307_325.out _).trans (hHeld.1)))),((cell_far (p:=⟨gb325,_,none⟩) NB307_325.out _).trans (((cell_far (p:=⟨gb325,_,none⟩) NB307_325.out _).trans (hHeld.2.1)))),((cell_far (p:=⟨gb325,_,none⟩) (by first|exact Nat.ne_of_lt (Nat.lt_of_lt_of_le (by have:=World.block_lt_of_cell? _ _ hw321_0;first|rwa [add_block] at this|exact this) GW325.out)|(rw [add_block];exact Nat.ne_of_lt (Nat.lt_of_lt_of_le (by have:=World.block_lt_of_cell? _ _ hw321_0;first|rwa [add_block] at this|exact this) GW325.out))|(show (Addr.add _ _).block ≠ _;rw [add_block];exact Nat.ne_of_lt (Nat.lt_of_lt_of_le (by have:=World.block_lt_of_cell? _ _ hw321_0;first|rwa [add_block] at this|exact this) GW325.out))|(dsimp only;exact Nat.ne_of_lt (Nat.lt_of_lt_of_le (by have:=World.block_lt_of_cell? _ _ hw321_0;first|rwa [add_block] at this|exact this) GW325.out))) _).trans (((cell_far (p:=⟨gb325,_,none⟩) (by first|exact Nat.ne_of_lt (Nat.lt_of_lt_of_le (by have:=World.block_lt_of_cell? _ _ hw321_0;first|rwa [add_block] at this|exact this) GW325.out)|(rw [add_block];exact Nat.ne_of_lt (Nat.lt_of_lt_of_le (by have:=World.block_lt_of_cell? _ _ hw321_0;first|rwa [add_block] at this|exact this) GW325.out))|(show (Addr.add _ _).block ≠ _;rw [add_block];exact Nat.ne_of_lt (Nat.lt_of_lt_of_le (by have:=World.block_lt_of_cell? _ _ hw321_0;first|rwa [add_block] at this|exact this) GW325.out))|(dsimp only;exact Nat.ne_of_lt (Nat.lt_of_lt_of_le (by have:=World.block_lt_of_cell? _ _ hw321_0;first|rwa [add_block] at this|exact this) GW325.out))) _).trans (hHeld.2.2.1)))),((cell_far (p:=⟨gb325,_,none⟩) (by first|exact Nat.ne_of_lt (Nat.lt_of_lt_of_le (by have:=World.block_lt_of_cell? _ _ hw321_1;first|rwa [add_block] at this|exact this) GW325.out)|(rw [add_block];exact Nat.ne_of_lt (Nat.lt_of_lt_of_le (by have:=World.block_lt_of_cell? _ _ hw321_1;first|rwa [add_block] at this|exact this) GW325.out))|(show (Addr.add _ _).block ≠ _;rw [add_block];exact Nat.ne_of_lt (Nat.lt_of_lt_of_le (by have:=World.block_lt_of_cell? _ _ hw321_1;first|rwa [add_block] at this|exact this) GW325.out))|(dsimp only;exact Nat.ne_of_lt (Nat.lt_of_lt_of_le (by have:=World.block_lt_of_cell? _ _ hw321_1;first|rwa [add_block] at this|exact this) GW325.out))) _).trans (((cell_far (p:=⟨gb325,_,none⟩) (by first|exact Nat.ne_of_lt (Nat.lt_of_lt_of_le (by have:=World.block_lt_of_cell? _ _ hw321_1;first|rwa [add_block] at this|exact this) GW325.out)|(rw [add_block];exact Nat.ne_of_lt (Nat.lt_of_lt_of_le (by have:=World.block_lt_of_cell? _ _ hw321_1;first|rwa [add_block] at this|exact this) GW325.out))|(show (Addr.add _ _).block ≠ _;rw [add_block];exact Nat.ne_of_lt (Nat.lt_of_lt_of_le (by have:=World.block_lt_of_cell? _ _ hw321_1;first|rwa [add_block] at this|exact this) GW325.out))|(dsimp only;exact Nat.ne_of_lt (Nat.lt_of_lt_of_le (by have:=World.block_lt_of_cell? _ _ hw321_1;first|rwa [add_block] at this|exact this) GW325.out))) _).trans (hHeld.2.2.2.1)))),((cell_far (p:=⟨gb325,_,none⟩) (by first|exact Nat.ne_of_lt (Nat.lt_of_lt_of_le (by have:=World.block_lt_of_cell? _ _ hw321_2;first|rwa [add_block] at this|exact this) GW325.out)|(rw [add_block];exact Nat.ne_of_lt (Nat.lt_of_lt_of_le (by have:=World.block_lt_of_cell? _ _ hw321_2;first|rwa [add_block] at this|exact this) GW325.out))|(show (Addr.add _ _).block ≠ _;rw [add_block];exact Nat.ne_of_lt (Nat.lt_of_lt_of_le (by have:=World.block_lt_of_cell? _ _ hw321_2;first|rwa [add_block] at this|exact this) GW325.out))|(dsimp only;exact Nat.ne_of_lt (Nat.lt_of_lt_of_le (by have:=World.block_lt_of_cell? _ _ hw321_2;first|rwa [add_block] at this|exact this) GW325.out))) _).trans (((cell_far (p:=⟨gb325,_,none⟩) (by first|exact Nat.ne_of_lt (Nat.lt_of_lt_of_le (by have:=World.block_lt_of_cell? _ _ hw321_2;first|rwa [add_block] at this|exact this) GW325.out)|(rw [add_block];exact Nat.ne_of_lt (Nat.lt_of_lt_of_le (by have:=World.block_lt_of_cell? _ _ hw321_2;first|rwa [add_block] at this|exact this) GW325.out))|(show (Addr.add _ _).block ≠ _;rw [add_block];exact Nat.ne_of_lt (Nat.lt_of_lt_of_le (by have:=World.block_lt_of_cell? _ _ hw321_2;first|rwa [add_block] at this|exact this) GW325.out))|(dsimp only;exact Nat.ne_of_lt (Nat.lt_of_lt_of_le (by have:=World.block_lt_of_cell? _ _ hw321_2;first|rwa [add_block] at this|exact this) GW325.out))) _).trans (hHeld.2.2.2.2))))⟩ (fun hHeld=>?_)
                clear hK K
                refine pure_ (i:=12) (N:=some 11) (v:=?_) (a':=?_) #[tT,tT,tT,tT,tT,tT,tT,tT,tT,tT,tT,tT,tT] rfl rfl (any_of HT_.out (by kernel_rfl)) (fun _ _ _ h=>h) (Or.inl ⟨by rfl,?_⟩) ?_ ?_
                rotate_left
                ·intro w'
                 go_simp
                 with_reducible rfl
                rotate_left
                ·simp only [Act.put,List.setIfInBounds_toArray,List.set_cons_zero,List.set_cons_succ,i64_w,i32_w]
                 rfl
                refine done_ (done_of HT_.out (by kernel_rfl)) ?_
                have hnb36:=NB325_307.out
                have hnc36:=NB307_325.out
                have hcz37_0:w33.cell? ⟨gb325,0,none⟩=some (.int .i64 0):=(qi_ BK325.out 0).trans rfl
                have hcz37_1:w33.cell? ⟨gb325,1,none⟩=some (.int .i64 0):=(qi_ BK325.out 1).trans rfl
                have hfz37_0:=qh_ BK325.out 0
                have hfz37_1:=qh_ BK325.out 1
                have hcz38_0:w33.cell? ⟨gb307,0,none⟩=some (.int .i64 a2_0):=(qi_ BK307.out 0).trans rfl
                have hcz38_1:w33.cell? ⟨gb307,1,none⟩=some (.int .i64 a2_1):=(qi_ BK307.out 1).trans rfl
                have hfz38_0:=qh_ BK307.out 0
                have hfz38_1:=qh_ BK307.out 1
                try go_wp2_with (first|((with_reducible refine qt_ (f:=141) rfl ?_);refine goesL_ (some 61) rfl rfl Try.func141 (by kernel_rfl) rfl #[.agg #[.int .i64 t322,.int .i64 t323]] rfl (by (try simp only [List.map_toArray,List.map_cons,List.map_nil]);first|done|rfl|(simp only [List.length_drop,List.length_take];rfl)) ?_;(with_reducible refine (qd2_.calls t322 t323 true _ A24.out).mono ?_);rintro e w39 ⟨rfl,hb⟩;refine ⟨_,rfl,?_⟩;have n0_:=aK (Kd.qj1_ (by (with_reducible repeat (first|apply Kd.qq_|apply Kd.qr_|apply Kd.R_drew));exact (Kd.R_mono (Kd.R_mono (Kd.R_far (p:=⟨gb307,1,none⟩) (Kd.R_far (p:=⟨gb307,0,none⟩) (Kd.R_far (p:=⟨gb325,1,none⟩) (Kd.R_far (p:=⟨gb325,0,none⟩) (Kd.qg2_ (Kd.qg2_ HO_9.out BK325.out (by decide)) BK307.out (by decide)) (fun _ hk=>hk.1.2) (.int .i64 t322)) (fun _ hk=>hk.1.2) (.int .i64 t323)) (fun _ hk=>hk.2) (.int .i64 t322)) (fun _ hk=>hk.2) (.int .i64 t323)) (fun _ h_=>h_.1)) (fun _ h_=>h_.1))) hb);have n1_:=aK (ql_ (g:=gb307) (o:=.cells #[.int .i64 t322,.int .i64 t323] 77 (0,0)) (by (with_reducible repeat (first|refine qe_ ?_ _|refine qg_ ?_|refine qd_ ?_ _));refine qy_ (cs:=#[.int .i64 t322,.int .i64 a2_1]) ?_ 1 _ rfl;(with_reducible repeat (first|refine qe_ ?_ _|refine qg_ ?_|refine qd_ ?_ _));refine qy_ (cs:=#[.int .i64 a2_0,.int .i64 a2_1]) ?_ 0 _ rfl;(with_reducible repeat (first|refine qe_ ?_ _|refine qg_ ?_|refine qd_ ?_ _));refine qa1_ ?_ NB307_325.out _;(with_reducible repeat (first|refine qe_ ?_ _|refine qg_ ?_|refine qd_ ?_ _));refine qa1_ ?_ NB307_325.out _;(with_reducible repeat (first|refine qe_ ?_ _|refine qg_ ?_|refine qd_ ?_ _));exact BK307.out) hb);have n2_:=aK (ql_ (g:=gb325) (o:=.cells #[.int .i64 t322,.int .i64 t323] 77 (0,0)) (by (with_reducible repeat (first|refine qe_ ?_ _|refine qg_ ?_|refine qd_ ?_ _));refine qa1_ ?_ NB325_307.out _;(with_reducible repeat (first|refine qe_ ?_ _|refine qg_ ?_|refine qd_ ?_ _));refine qa1_ ?_ NB325_307.out _;(with_reducible repeat (first|refine qe_ ?_ _|refine qg_ ?_|refine qd_ ?_ _));refine qy_ (cs:=#[.int .i64 t322,.int .i64 0]) ?_ 1 _ rfl;(with_reducible repeat (first|refine qe_ ?_ _|refine qg_ ?_|refine qd_ ?_ _));refine qy_ (cs:=#[.int .i64 0,.int .i64 0]) ?_ 0 _ rfl;(with_reducible repeat (first|refine qe_ ?_ _|refine qg_ ?_|refine qd_ ?_ _));exact BK325.out) hb);have n3_:=aK (qm_ (by repeat (first|(with_reducible first|exact HB.out|apply qb_|apply qa_|apply qc_|refine qf_ ?_ GE307.out|refine qf_ ?_ GE325.out)|exact HB.out)) hb);clear HO_9;clear BK307;clear BK325;clear HB;have HO_9:=n0_;have BK307:=n1_;have BK325:=n2_;have HB:=n3_;clear n0_ n1_ n2_ n3_;(try clear hb);(try clear hb2);(try clear hk);(try clear hi);have q40:((ji26):Int)≤((l0.length:Int):Int):=of_decide_eq_true (by first|(with_reducible assumption)|assumption);obtain ⟨i040,hi040,_,hsz40,_⟩:=info_parts info79;have hroom40:l0.length≤c0:=HC0.out;have hC40:Kd.C k79 _ (some ad321) l0.length l0:=HR0.out;have q040:(0:Int)≤((ji26):Int):=of_decide_eq_true (by first|(with_reducible assumption)|assumption);have hcut40:=cut_from (P:=Try.prog) 24 79 .i64 Try.underlying24 hi040 3 hsz40 (some ad321) l0.length c0 (ji26) q040 q40;have hr40:=Kd.C_drop (m:=((ji26):Int).toNat) (c:=c0) hC40 (by omega) hroom40;obtain ⟨A40,hA40⟩:∃ A1,A1=(if c0=((ji26):Int).toNat then (some ad321) else ((some ad321):Option Addr).map (·.add (((ji26):Int).toNat * 3))):=⟨_,rfl⟩;obtain ⟨c40,hc40⟩:∃ c1,c1=c0 - ((ji26):Int).toNat:=⟨_,rfl⟩;have hy40:y327.length=l0.length - ((ji26):Int).toNat:=(by rw [Ny327.out,List.length_drop] <;> omega);rw [show (l0).drop ((ji26):Int).toNat=y327 from Ny327.out.symm] at hr40;replace hr40:Kd.C k79 _ A40 y327.length y327:=(by rw [hA40];exact hr40);rw [← hy40,← hA40,← hc40] at hcut40;have HR330:=aK hr40;have HC330:=aK (show y327.length≤c40 from by rw [hy40,hc40];exact Nat.sub_le_sub_right hroom40 _);clear hr40 hC40 hroom40 hi040 hsz40 hc40;have KY40:=aK hy40;have KA40:=aK hA40;clear hy40 hA40;replace q40:=eq_true q40)|((with_reducible refine qv2_ (b:=.append) (xs:=#[.tmp 69,.tmp 72]) rfl ?_);at_builtin;refine Kd.qd3_ k79 (w0:=w) w.heap.size rfl (.tmp 69) (.tmp 72) 24 79 (.agg #[(.string ⟨#[]⟩),(.int .i64 0),(.int .i64 0)]) 32 rfl Try.underlying24 info79 rfl (by decide) (by omega) v318 y317 y327 _ _ _ (fun _=>True) (fun _=>False) rfl rfl ?aO ?aR (fun _ _ h=>h) (fun _ h=>h.elim) ?aF ?aB ?aS ?aL ?_;(case aR=>repeat (first|exact (Kd.qn2_ HR330.out HB.out)|(with_reducible refine Kd.qi2_ ?_ _)|(with_reducible refine Kd.qh2_ ?_ _)|(with_reducible refine Kd.C_drew ?_)));(case aB=>exact (by repeat (first|(with_reducible first|exact HB.out|apply qb_|apply qa_|apply qc_|refine qf_ ?_ GE307.out|refine qf_ ?_ GE325.out)|exact HB.out)));(case aF=>exact (fun _ _=>trivial));(case aO=>exact (by (with_reducible repeat (first|apply Kd.qq_|apply Kd.qr_|apply Kd.R_drew));exact HO_9.out));(case aS=>exact (qk_ (by repeat (first|(with_reducible first|exact HB.out|apply qb_|apply qa_|apply qc_|refine qf_ ?_ GE307.out|refine qf_ ?_ GE325.out)|exact HB.out))));(case aL=>have:=LMc29.out;omega);intro v332 w41 ho hb hg hat;rw [← Ny331.out] at ho;have n0_:=aK (qc3_ (g:=gb307) (o:=.cells #[.int .i64 t322,.int .i64 t323] 77 (0,0)) (by (with_reducible repeat (first|refine qe_ ?_ _|refine qg_ ?_|refine qd_ ?_ _));exact BK307.out) hg (Kd.R_ne HO_9.out BK307.out (by decide)));have n1_:=aK (qc3_ (g:=gb325) (o:=.cells #[.int .i64 t322,.int .i64 t323] 77 (0,0)) (by (with_reducible repeat (first|refine qe_ ?_ _|refine qg_ ?_|refine qd_ ?_ _));exact BK325.out) hg (Kd.R_ne HO_9.out BK325.out (by decide)));have n2_:=aK (hb);have n3_:=aK (ho);clear BK307;clear BK325;clear HB;clear HO_9;have BK307:=n0_;have BK325:=n1_;have HB:=n2_;have HO333:=n3_;clear n0_ n1_ n2_ n3_;clear ho hb hg hat))
                go_ret2
                exact ⟨_,by first|rfl|(simp [qn_,qo_] <;> rfl)|(simp only [← hji26];first|rfl|(simp [qn_,qo_] <;> rfl))|(simp [*,qn_,qo_] <;> rfl),by (with_reducible repeat (first|apply Kd.qq_|apply Kd.qr_|apply Kd.R_drew));exact HO333.out,by repeat (first|(with_reducible first|exact HB.out|apply qb_|apply qa_|apply qc_|refine qf_ ?_ GE307.out|refine qf_ ?_ GE325.out)|exact HB.out)⟩
               ·rw [if_neg c29] at H
                exact absurd H (by simp)
              ·rw [if_neg c28] at H
               exact absurd H (by simp)
             ·rw [if_neg c27] at H
              exact absurd H (by simp)
            ·replace c25:=Bool.eq_false_iff.mpr c25
             subst c25
             have H1:(if y317.length < 4398046511104 then ((some (y317 ++ [(⟨a1,(⟨t322,t323⟩:S77)⟩:S79)]:List (S79))).bind fun y334=>(if 0≤(wrap64 (x8_3+1)) then (if (wrap64 (x8_3+1))≤(l0.length:Int) then ((some (l0.drop ((wrap64 (x8_3+1)):Int).toNat:List (S79))).bind fun y337=>(if y334.length+y337.length < 4398046511104 then (some ((y334 ++ y337),true)) else (none))) else (none)) else (none))) else (none))=some (r1,r2):=by rw [if_neg (show ¬ (false=true) by decide)] at H;exact H
             clear H
             have H:=H1
             clear H1
             by_cases c42:y317.length < 4398046511104
             ·rw [if_pos c42] at H
              have LMc42:=aK c42
              clear c42
              obtain ⟨y334,hy334⟩:∃ y_:List (S79),y_=(y317 ++ [(⟨a1,(⟨t322,t323⟩:S77)⟩:S79)]):=⟨_,rfl⟩
              replace H:(if 0≤(wrap64 (x8_3+1)) then (if (wrap64 (x8_3+1))≤(l0.length:Int) then ((some (l0.drop ((wrap64 (x8_3+1)):Int).toNat:List (S79))).bind fun y337=>(if y334.length+y337.length < 4398046511104 then (some ((y334 ++ y337),true)) else (none))) else (none)) else (none))=some (r1,r2):=by first|(rw [hy334];with_reducible exact H)|(have H2_:=(Option.bind_some _ _).symm.trans H;rw [hy334];with_reducible exact H2_)|(have H2_:=(Option.bind_some _ _).symm.trans H;with_reducible exact H2_)|with_reducible exact H|(rw [hy334];exact H)|exact H
              have Ny334:=aK hy334
              clear hy334
              obtain ⟨ji43,hji43⟩:∃ j_:Int,(wrap64 (x8_3+1))=j_:=⟨_,rfl⟩
              replace H:(if 0≤(ji43) then (if (ji43)≤(l0.length:Int) then ((some (l0.drop ((ji43):Int).toNat:List (S79))).bind fun y337=>(if y334.length+y337.length < 4398046511104 then (some ((y334 ++ y337),true)) else (none))) else (none)) else (none))=some (r1,r2):=by first|(rw [hji43] at H;exact H)|(simp only [hji43] at H ⊢;exact H)
              (try rw [hji43] at A22)
              (try rw [hji43] at A24)
              have hji43w:(IntKind.i64.wrap (x8_3+1))=ji43:=(i64_w _).trans hji43
              by_cases c44:0≤(ji43)
              ·rw [if_pos c44] at H
               have c44b0:=eq_true c44
               have c44b1:decide (0≤(ji43))=true:=decide_eq_true c44
               clear c44
               by_cases c45:(ji43)≤(l0.length:Int)
               ·rw [if_pos c45] at H
                have c45b0:=eq_true c45
                have c45b1:decide ((ji43)≤(l0.length:Int))=true:=decide_eq_true c45
                clear c45
                obtain ⟨y337,hy337⟩:∃ y_:List (S79),y_=(l0.drop ((ji43):Int).toNat):=⟨_,rfl⟩
                replace H:(if y334.length+y337.length < 4398046511104 then (some ((y334 ++ y337),true)) else (none))=some (r1,r2):=by first|(rw [hy337];with_reducible exact H)|(have H2_:=(Option.bind_some _ _).symm.trans H;rw [hy337];with_reducible exact H2_)|(have H2_:=(Option.bind_some _ _).symm.trans H;with_reducible exact H2_)|with_reducible exact H|(rw [hy337];exact H)|exact H
                have Ny337:=aK hy337
                clear hy337
                by_cases c46:y334.length+y337.length < 4398046511104
                ·rw [if_pos c46] at H
                 have LMc46:=aK c46
                 clear c46
                 obtain ⟨y341,hy341⟩:∃ y_:List (S79),y_=(y334 ++ y337):=⟨_,rfl⟩
                 replace H:(some (y341,true))=some (r1,r2):=by first|(rw [hy341];with_reducible exact H)|(have H2_:=(Option.bind_some _ _).symm.trans H;rw [hy341];with_reducible exact H2_)|(have H2_:=(Option.bind_some _ _).symm.trans H;with_reducible exact H2_)|with_reducible exact H|(rw [hy341];exact H)|exact H
                 have Ny341:=aK hy341
                 clear hy341
                 simp only [Option.some.injEq,Prod.mk.injEq] at H
                 obtain ⟨rfl,rfl⟩:=H
                 try go_wp2
                 have n0_:=aK (Kd.R_drew HO_9.out)
                 have n1_:=aK (qg_ BK307.out)
                 have n2_:=aK (qc_ HB.out)
                 clear HO_9
                 clear BK307
                 clear HB
                 have HO_9:=n0_
                 have BK307:=n1_
                 have HB:=n2_
                 clear n0_ n1_ n2_
                 have p321:0≤(x8_3:Int):=of_decide_eq_true (by first|(with_reducible assumption)|assumption)
                 have q321:x8_3 < (l0.length:Int):=of_decide_eq_true (by first|(with_reducible assumption)|assumption)
                 obtain ⟨ad321,e321,hx321_0,hx321_1,hx321_2⟩:=at_T79 HR0.out x8_3 p321 q321
                 have hw321_2:=hx321_2
                 have hw321_1:=hx321_1
                 have hw321_0:=hx321_0
                 cases e321
                 replace hx321_0:=(HB.out.cell (World.block_lt_of_cell? w _ hx321_0)).trans hx321_0
                 replace hx321_1:=(HB.out.cell (World.block_lt_of_cell? w _ hx321_1)).trans hx321_1
                 replace hx321_2:=(HB.out.cell (World.block_lt_of_cell? w _ hx321_2)).trans hx321_2
                 replace p321:=eq_true p321
                 replace q321:=eq_true q321
                 refine start_ (n:=13) (S:=fun w'=>w'.cell? ⟨gb307,0,none⟩=some (.int .i64 a2_0)∧w'.cell? ⟨gb307,1,none⟩=some (.int .i64 a2_1)∧w'.cell? (ad321.add ((x8_3).toNat * 3))=some (.string ((rd_T79 l0 x8_3).f0))∧w'.cell? ⟨(ad321.add ((x8_3).toNat * 3)).block,(ad321.add ((x8_3).toNat * 3)).off+1,none⟩=some (.int .i64 ((rd_T79 l0 x8_3).f1.f0))∧w'.cell? ⟨(ad321.add ((x8_3).toNat * 3)).block,(ad321.add ((x8_3).toNat * 3)).off+2,none⟩=some (.int .i64 ((rd_T79 l0 x8_3).f1.f1))) (ds:=[]) #[fF,fF,fF,fF,fF,fF,fF,fF,fF,fF,fF,fF,fF] (by kernel_rfl) rfl rfl ⟨(qi_ BK307.out 0).trans rfl,(qi_ BK307.out 1).trans rfl,((HB.out.cell (World.block_lt_of_cell? w _ hw321_0)).trans hw321_0),((HB.out.cell (World.block_lt_of_cell? w _ hw321_1)).trans hw321_1),((HB.out.cell (World.block_lt_of_cell? w _ hw321_2)).trans hw321_2)⟩ (fun hHeld=>?_);refine with_tabW qs_.tab6 qs_.bits6 (fun HT_ HW_=>?_)
                 generalize wc.drew=w47 at HO_9 BK307 HB hx321_0 hx321_1 hx321_2 hHeld ⊢
                 refine pure_ (i:=0) (N:=some 46) (v:=?_) (a':=?_) #[tT,fF,fF,fF,fF,fF,fF,fF,fF,fF,fF,fF,fF] rfl rfl (any_of HT_.out (by kernel_rfl)) (fun _ _ _ h=>h) (Or.inl ⟨by rfl,?_⟩) ?_ ?_
                 rotate_left
                 ·intro w'
                  go_simp
                  with_reducible rfl
                 rotate_left
                 ·simp only [Act.put,List.setIfInBounds_toArray,List.set_cons_zero,List.set_cons_succ,i64_w,i32_w]
                  rfl
                 refine pure_ (i:=1) (N:=some 47) (v:=?_) (a':=?_) #[tT,tT,fF,fF,fF,fF,fF,fF,fF,fF,fF,fF,fF] rfl rfl (any_of HT_.out (by kernel_rfl)) (fun _ _ _ h=>h) (Or.inl ⟨by rfl,?_⟩) ?_ ?_
                 rotate_left
                 ·intro w'
                  go_simp
                  with_reducible rfl
                 rotate_left
                 ·simp only [Act.put,List.setIfInBounds_toArray,List.set_cons_zero,List.set_cons_succ,i64_w,i32_w]
                  rfl
                 refine pure_ (i:=2) (N:=some 48) (v:=?_) (a':=?_) #[tT,tT,tT,fF,fF,fF,fF,fF,fF,fF,fF,fF,fF] rfl rfl (any_of HT_.out (by kernel_rfl)) (fun _ _ _ h=>h) (Or.inl ⟨by rfl,?_⟩) ?_ ?_
                 rotate_left
                 ·intro w'
                  go_simp
                  with_reducible rfl
                 rotate_left
                 ·simp only [Act.put,List.setIfInBounds_toArray,List.set_cons_zero,List.set_cons_succ,i64_w,i32_w]
                  rfl
                 refine pure_ (i:=3) (N:=some 49) (v:=?_) (a':=?_) #[tT,tT,tT,tT,fF,fF,fF,fF,fF,fF,fF,fF,fF] rfl rfl (any_of HT_.out (by kernel_rfl)) (fun _ _ _ h=>h) (Or.inl ⟨by rfl,?_⟩) ?_ ?_
                 rotate_left
                 ·intro w'
                  go_simp
                  with_reducible rfl
                 rotate_left
                 ·simp only [Act.put,List.setIfInBounds_toArray,List.set_cons_zero,List.set_cons_succ,i64_w,i32_w]
                  rfl
                 refine take_ (i:=4) (N:=some 50) (v:=?_) (a':=?_) #[tT,tT,tT,tT,tT,fF,fF,fF,fF,fF,fF,fF,fF] rfl rfl (take_ofW HT_.out HW_.out (by kernel_rfl)) (fun _ _ _ h=>h) (Or.inl ⟨by rfl,?_⟩) hHeld ?_ ?_
                 rotate_left
                 ·rintro w' ⟨s0,s1,s2,s3,s4⟩
                  go_simp
                  with_reducible rfl
                 rotate_left
                 ·simp only [Act.put,List.setIfInBounds_toArray,List.set_cons_zero,List.set_cons_succ,i64_w,i32_w]
                  rfl
                 refine take_ (i:=5) (N:=some 51) (v:=?_) (a':=?_) #[tT,tT,tT,tT,tT,tT,fF,fF,fF,fF,fF,fF,fF] rfl rfl (take_ofW HT_.out HW_.out (by kernel_rfl)) (fun _ _ _ h=>h) (Or.inl ⟨by rfl,?_⟩) hHeld ?_ ?_
                 rotate_left
                 ·rintro w' ⟨s0,s1,s2,s3,s4⟩
                  go_simp
                  with_reducible rfl
                 rotate_left
                 ·simp only [Act.put,List.setIfInBounds_toArray,List.set_cons_zero,List.set_cons_succ,i64_w,i32_w]
                  rfl
                 refine join_ (σ:=Nat) 2 #[tT,tT,tT,tT,tT,tT,tT,tT,tT,tT,tT,fF,fF] (fun s_=>[(52,.tuple #[.agg #[.int .i64 t322,.int .i64 t323],.bool true]),(10,.pointer (some ⟨s_,0,none⟩)),(45,.tuple #[.agg #[.int .i64 t322,.int .i64 t323],.bool true]),(53,.agg #[.int .i64 t322,.int .i64 t323]),(54,.bool true)]) (fun s_ w'=>(w'.cell? ⟨gb307,0,none⟩=some (.int .i64 a2_0)∧w'.cell? ⟨gb307,1,none⟩=some (.int .i64 a2_1)∧w'.cell? (ad321.add ((x8_3).toNat * 3))=some (.string ((rd_T79 l0 x8_3).f0))∧w'.cell? ⟨(ad321.add ((x8_3).toNat * 3)).block,(ad321.add ((x8_3).toNat * 3)).off+1,none⟩=some (.int .i64 ((rd_T79 l0 x8_3).f1.f0))∧w'.cell? ⟨(ad321.add ((x8_3).toNat * 3)).block,(ad321.add ((x8_3).toNat * 3)).off+2,none⟩=some (.int .i64 ((rd_T79 l0 x8_3).f1.f1)))∧(Kd.R k79 79 w' w.heap.size (fun _=>True) v318 y317)∧(w'.heap[gb307]?=some (.cells #[.int .i64 a2_0,.int .i64 a2_1] 77 (0,0)))∧(w'.heap[s_]?=some (.cells #[.int .i64 0,.int .i64 0] 77 (0,0)))∧(w.heap.size≤s_)∧(w.heap.size≤s_)∧(gb307 ≠ s_)∧(s_ ≠ gb307)∧(Below w.heap.size w w')) ?_ ?_
                 rotate_left
                 ·intro hCont
                  refine two_ (i:=6) (j:=10) (Ni:=some 52) (Nj:=some 10) #[tT,tT,tT,tT,tT,tT,tT,fF,fF,fF,fF,fF,fF] #[tT,tT,tT,tT,tT,tT,fF,fF,fF,fF,tT,fF,fF] rfl rfl rfl rfl (two_of HT_.out (by kernel_rfl)) (by decide) (by decide) (fun K hK=>?_) (fun K hK=>?_)
                  ·skip
                   refine goes_ Try.func187 (by kernel_rfl) rfl #[.agg #[.int .i64 ((rd_T79 l0 x8_3).f1.f0),.int .i64 ((rd_T79 l0 x8_3).f1.f1)],.agg #[.int .i64 a2_0,.int .i64 a2_1]] (by rfl) rfl rfl (by (try simp only [List.map_toArray,List.map_cons,List.map_nil]);first|done|rfl|(simp only [List.length_drop,List.length_take];rfl)) ?_
                   with_reducible refine (qa2_.calls kj12 ((rd_T79 l0 x8_3).f1.f0) ((rd_T79 l0 x8_3).f1.f1) a2_0 a2_1 t322 t323 true _ A22.out).mono ?_
                   rintro e w48 ⟨rfl,hb⟩
                   refine ⟨_,rfl,?_⟩
                   have n0_:=aK (Kd.qj1_ (by (with_reducible repeat (first|apply Kd.qq_|apply Kd.qr_|apply Kd.R_drew));exact HO_9.out) hb)
                   have n1_:=aK (ql_ (g:=gb307) (o:=.cells #[.int .i64 a2_0,.int .i64 a2_1] 77 (0,0)) (by (with_reducible repeat (first|refine qe_ ?_ _|refine qg_ ?_|refine qd_ ?_ _));exact BK307.out) hb)
                   have n2_:=aK (qm_ (by repeat (first|(with_reducible first|exact HB.out|apply qb_|apply qa_|apply qc_|refine qf_ ?_ GE307.out)|exact HB.out)) hb)
                   clear HO_9
                   clear BK307
                   clear HB
                   have HO_9:=n0_
                   have BK307:=n1_
                   have HB:=n2_
                   clear n0_ n1_ n2_
                   (try clear hb)
                   (try clear hb2)
                   (try clear hk)
                   (try clear hi)
                   refine hK.out _ _ ⟨(qi_ BK307.out 0).trans rfl,(qi_ BK307.out 1).trans rfl,((HB.out.cell (World.block_lt_of_cell? w _ hw321_0)).trans hw321_0),((HB.out.cell (World.block_lt_of_cell? w _ hw321_1)).trans hw321_1),((HB.out.cell (World.block_lt_of_cell? w _ hw321_2)).trans hw321_2)⟩ (fun hHeld=>?_)
                   clear hK K
                   refine norm_ (a':=?_) ?_ ?_
                   rotate_left
                   ·show Act.put _ (some 52) _=_
                    simp only [Act.put,List.setIfInBounds_toArray,List.set_cons_zero,List.set_cons_succ,i64_w,i32_w]
                    rfl
                   refine pure_ (i:=7) (N:=some 45) (v:=?_) (a':=?_) #[tT,tT,tT,tT,tT,tT,tT,tT,fF,fF,fF,fF,fF] rfl rfl (any_of HT_.out (by kernel_rfl)) (fun _ _ _ h=>h) (Or.inl ⟨by rfl,?_⟩) ?_ ?_
                   rotate_left
                   ·intro w'
                    go_simp
                    with_reducible rfl
                   rotate_left
                   ·simp only [Act.put,List.setIfInBounds_toArray,List.set_cons_zero,List.set_cons_succ,i64_w,i32_w]
                    rfl
                   refine pure_ (i:=8) (N:=some 53) (v:=?_) (a':=?_) #[tT,tT,tT,tT,tT,tT,tT,tT,tT,fF,fF,fF,fF] rfl rfl (any_of HT_.out (by kernel_rfl)) (fun _ _ _ h=>h) (Or.inl ⟨by rfl,?_⟩) ?_ ?_
                   rotate_left
                   ·intro w'
                    go_simp
                    with_reducible rfl
                   rotate_left
                   ·simp only [Act.put,List.setIfInBounds_toArray,List.set_cons_zero,List.set_cons_succ,i64_w,i32_w]
                    rfl
                   refine pure_ (i:=9) (N:=some 54) (v:=?_) (a':=?_) #[tT,tT,tT,tT,tT,tT,tT,tT,tT,tT,fF,fF,fF] rfl rfl (any_of HT_.out (by kernel_rfl)) (fun _ _ _ h=>h) (Or.inl ⟨by rfl,?_⟩) ?_ ?_
                   rotate_left
                   ·intro w'
                    go_simp
                    with_reducible rfl
                   rotate_left
                   ·simp only [Act.put,List.setIfInBounds_toArray,List.set_cons_zero,List.set_cons_succ,i64_w,i32_w]
                    rfl
                   refine one_ (i:=10) (N:=some 10) #[tT,tT,tT,tT,tT,tT,tT,tT,tT,tT,tT,fF,fF] rfl rfl (one_of HT_.out (by kernel_rfl)) (by decide) (fun K hK=>?_)
                   refine box_step ?hg (N:=10) ?hd (cs:=#[.int .i64 0,.int .i64 0]) (t:=77) ?hr ?_;(case hd=>rfl);(case hg=>rfl);(case hr=>first|(go_simp;done)|(go_simp;rfl))
                   intro gb325 hg w49 hbox hb
                   have n0_:=aK (Kd.qj1_ (by (with_reducible repeat (first|apply Kd.qq_|apply Kd.qr_|apply Kd.R_drew));exact HO_9.out) hb)
                   have n1_:=aK (ql_ (g:=gb307) (o:=.cells #[.int .i64 a2_0,.int .i64 a2_1] 77 (0,0)) (by (with_reducible repeat (first|refine qe_ ?_ _|refine qg_ ?_|refine qd_ ?_ _));exact BK307.out) hb)
                   have n2_:=aK (qm_ (by repeat (first|(with_reducible first|exact HB.out|apply qb_|apply qa_|apply qc_|refine qf_ ?_ GE307.out)|exact HB.out)) hb)
                   have n3_:=aK (hbox)
                   have n4_:=aK ((by rw [hg];exact (qk_ (by repeat (first|(with_reducible first|exact HB.out|apply qb_|apply qa_|apply qc_|refine qf_ ?_ GE307.out)|exact HB.out))):w.heap.size≤gb325))
                   have n5_:=aK ((by rw [hg];exact (qk_ (by repeat (first|(with_reducible first|exact HB.out|apply qb_|apply qa_|apply qc_|refine qf_ ?_ GE307.out)|exact HB.out))):w.heap.size≤gb325))
                   have n6_:=aK ((by rw [hg];exact Nat.ne_of_lt (blk_lt (g:=gb307) (o:=.cells #[.int .i64 a2_0,.int .i64 a2_1] 77 (0,0)) (by (with_reducible repeat (first|refine qe_ ?_ _|refine qg_ ?_|refine qd_ ?_ _));exact BK307.out)):gb307 ≠ gb325))
                   have n7_:=aK ((by rw [hg];exact Nat.ne_of_gt (blk_lt (g:=gb307) (o:=.cells #[.int .i64 a2_0,.int .i64 a2_1] 77 (0,0)) (by (with_reducible repeat (first|refine qe_ ?_ _|refine qg_ ?_|refine qd_ ?_ _));exact BK307.out)):gb325 ≠ gb307))
                   clear HO_9
                   clear BK307
                   clear HB
                   have HO_9:=n0_
                   have BK307:=n1_
                   have HB:=n2_
                   have BK325:=n3_
                   have GW325:=n4_
                   have GE325:=n5_
                   have NB307_325:=n6_
                   have NB325_307:=n7_
                   clear n0_ n1_ n2_ n3_ n4_ n5_ n6_ n7_
                   clear hb hbox hg
                   refine hK.out _ _ ⟨(qi_ BK307.out 0).trans rfl,(qi_ BK307.out 1).trans rfl,((HB.out.cell (World.block_lt_of_cell? w _ hw321_0)).trans hw321_0),((HB.out.cell (World.block_lt_of_cell? w _ hw321_1)).trans hw321_1),((HB.out.cell (World.block_lt_of_cell? w _ hw321_2)).trans hw321_2)⟩ (fun hHeld=>?_)
                   clear hK K
                   refine norm_ (a':=?_) ?_ ?_
                   rotate_left
                   ·show Act.put _ (some 10) _=_
                    simp only [Act.put,List.setIfInBounds_toArray,List.set_cons_zero,List.set_cons_succ,i64_w,i32_w]
                    rfl
                   exact norm_ (by simp only [putAll,Act.put,List.setIfInBounds_toArray,List.set_cons_zero,List.set_cons_succ]) (hCont (gb325) _ ⟨hHeld,(by (with_reducible repeat (first|apply Kd.qq_|apply Kd.qr_|apply Kd.R_drew));exact HO_9.out),(by (with_reducible repeat (first|refine qe_ ?_ _|refine qg_ ?_|refine qd_ ?_ _));exact BK307.out),(by (with_reducible repeat (first|refine qe_ ?_ _|refine qg_ ?_|refine qd_ ?_ _));exact BK325.out),GW325.out,GE325.out,NB307_325.out,NB325_307.out,(by repeat (first|(with_reducible first|exact HB.out|apply qb_|apply qa_|apply qc_|refine qf_ ?_ GE307.out|refine qf_ ?_ GE325.out)|exact HB.out))⟩)
                  ·skip
                   refine box_step ?hg (N:=10) ?hd (cs:=#[.int .i64 0,.int .i64 0]) (t:=77) ?hr ?_;(case hd=>rfl);(case hg=>rfl);(case hr=>first|(go_simp;done)|(go_simp;rfl))
                   intro gb325 hg w48 hbox hb
                   have n0_:=aK (Kd.qj1_ (by (with_reducible repeat (first|apply Kd.qq_|apply Kd.qr_|apply Kd.R_drew));exact HO_9.out) hb)
                   have n1_:=aK (ql_ (g:=gb307) (o:=.cells #[.int .i64 a2_0,.int .i64 a2_1] 77 (0,0)) (by (with_reducible repeat (first|refine qe_ ?_ _|refine qg_ ?_|refine qd_ ?_ _));exact BK307.out) hb)
                   have n2_:=aK (qm_ (by repeat (first|(with_reducible first|exact HB.out|apply qb_|apply qa_|apply qc_|refine qf_ ?_ GE307.out)|exact HB.out)) hb)
                   have n3_:=aK (hbox)
                   have n4_:=aK ((by rw [hg];exact (qk_ (by repeat (first|(with_reducible first|exact HB.out|apply qb_|apply qa_|apply qc_|refine qf_ ?_ GE307.out)|exact HB.out))):w.heap.size≤gb325))
                   have n5_:=aK ((by rw [hg];exact (qk_ (by repeat (first|(with_reducible first|exact HB.out|apply qb_|apply qa_|apply qc_|refine qf_ ?_ GE307.out)|exact HB.out))):w.heap.size≤gb325))
                   have n6_:=aK ((by rw [hg];exact Nat.ne_of_lt (blk_lt (g:=gb307) (o:=.cells #[.int .i64 a2_0,.int .i64 a2_1] 77 (0,0)) (by (with_reducible repeat (first|refine qe_ ?_ _|refine qg_ ?_|refine qd_ ?_ _));exact BK307.out)):gb307 ≠ gb325))
                   have n7_:=aK ((by rw [hg];exact Nat.ne_of_gt (blk_lt (g:=gb307) (o:=.cells #[.int .i64 a2_0,.int .i64 a2_1] 77 (0,0)) (by (with_reducible repeat (first|refine qe_ ?_ _|refine qg_ ?_|refine qd_ ?_ _));exact BK307.out)):gb325 ≠ gb307))
                   clear HO_9
                   clear BK307
                   clear HB
                   have HO_9:=n0_
                   have BK307:=n1_
                   have HB:=n2_
                   have BK325:=n3_
                   have GW325:=n4_
                   have GE325:=n5_
                   have NB307_325:=n6_
                   have NB325_307:=n7_
                   clear n0_ n1_ n2_ n3_ n4_ n5_ n6_ n7_
                   clear hb hbox hg
                   refine hK.out _ _ ⟨(qi_ BK307.out 0).trans rfl,(qi_ BK307.out 1).trans rfl,((HB.out.cell (World.block_lt_of_cell? w _ hw321_0)).trans hw321_0),((HB.out.cell (World.block_lt_of_cell? w _ hw321_1)).trans hw321_1),((HB.out.cell (World.block_lt_of_cell? w _ hw321_2)).trans hw321_2)⟩ (fun hHeld=>?_)
                   clear hK K
                   refine norm_ (a':=?_) ?_ ?_
                   rotate_left
                   ·show Act.put _ (some 10) _=_
                    simp only [Act.put,List.setIfInBounds_toArray,List.set_cons_zero,List.set_cons_succ,i64_w,i32_w]
                    rfl
                   refine one_ (i:=6) (N:=some 52) #[tT,tT,tT,tT,tT,tT,tT,fF,fF,fF,tT,fF,fF] rfl rfl (one_of HT_.out (by kernel_rfl)) (by decide) (fun K hK=>?_)
                   refine goes_ Try.func187 (by kernel_rfl) rfl #[.agg #[.int .i64 ((rd_T79 l0 x8_3).f1.f0),.int .i64 ((rd_T79 l0 x8_3).f1.f1)],.agg #[.int .i64 a2_0,.int .i64 a2_1]] (by rfl) rfl rfl (by (try simp only [List.map_toArray,List.map_cons,List.map_nil]);first|done|rfl|(simp only [List.length_drop,List.length_take];rfl)) ?_
                   with_reducible refine (qa2_.calls kj12 ((rd_T79 l0 x8_3).f1.f0) ((rd_T79 l0 x8_3).f1.f1) a2_0 a2_1 t322 t323 true _ A22.out).mono ?_
                   rintro e w49 ⟨rfl,hb⟩
                   refine ⟨_,rfl,?_⟩
                   have n0_:=aK (Kd.qj1_ (by (with_reducible repeat (first|apply Kd.qq_|apply Kd.qr_|apply Kd.R_drew));exact HO_9.out) hb)
                   have n1_:=aK (ql_ (g:=gb307) (o:=.cells #[.int .i64 a2_0,.int .i64 a2_1] 77 (0,0)) (by (with_reducible repeat (first|refine qe_ ?_ _|refine qg_ ?_|refine qd_ ?_ _));exact BK307.out) hb)
                   have n2_:=aK (ql_ (g:=gb325) (o:=.cells #[.int .i64 0,.int .i64 0] 77 (0,0)) (by (with_reducible repeat (first|refine qe_ ?_ _|refine qg_ ?_|refine qd_ ?_ _));exact BK325.out) hb)
                   have n3_:=aK (qm_ (by repeat (first|(with_reducible first|exact HB.out|apply qb_|apply qa_|apply qc_|refine qf_ ?_ GE307.out|refine qf_ ?_ GE325.out)|exact HB.out)) hb)
                   clear HO_9
                   clear BK307
                   clear BK325
                   clear HB
                   have HO_9:=n0_
                   have BK307:=n1_
                   have BK325:=n2_
                   have HB:=n3_
                   clear n0_ n1_ n2_ n3_
                   (try clear hb)
                   (try clear hb2)
                   (try clear hk)
                   (try clear hi)
                   refine hK.out _ _ ⟨(qi_ BK307.out 0).trans rfl,(qi_ BK307.out 1).trans rfl,((HB.out.cell (World.block_lt_of_cell? w _ hw321_0)).trans hw321_0),((HB.out.cell (World.block_lt_of_cell? w _ hw321_1)).trans hw321_1),((HB.out.cell (World.block_lt_of_cell? w _ hw321_2)).trans hw321_2)⟩ (fun hHeld=>?_)
                   clear hK K
                   refine norm_ (a':=?_) ?_ ?_
                   rotate_left
                   ·show Act.put _ (some 52) _=_
                    simp only [Act.put,List.setIfInBounds_toArray,List.set_cons_zero,List.set_cons_succ,i64_w,i32_w]
                    rfl
                   refine pure_ (i:=7) (N:=some 45) (v:=?_) (a':=?_) #[tT,tT,tT,tT,tT,tT,tT,tT,fF,fF,tT,fF,fF] rfl rfl (any_of HT_.out (by kernel_rfl)) (fun _ _ _ h=>h) (Or.inl ⟨by rfl,?_⟩) ?_ ?_
                   rotate_left
                   ·intro w'
                    go_simp
                    with_reducible rfl
                   rotate_left
                   ·simp only [Act.put,List.setIfInBounds_toArray,List.set_cons_zero,List.set_cons_succ,i64_w,i32_w]
                    rfl
                   refine pure_ (i:=8) (N:=some 53) (v:=?_) (a':=?_) #[tT,tT,tT,tT,tT,tT,tT,tT,tT,fF,tT,fF,fF] rfl rfl (any_of HT_.out (by kernel_rfl)) (fun _ _ _ h=>h) (Or.inl ⟨by rfl,?_⟩) ?_ ?_
                   rotate_left
                   ·intro w'
                    go_simp
                    with_reducible rfl
                   rotate_left
                   ·simp only [Act.put,List.setIfInBounds_toArray,List.set_cons_zero,List.set_cons_succ,i64_w,i32_w]
                    rfl
                   refine pure_ (i:=9) (N:=some 54) (v:=?_) (a':=?_) #[tT,tT,tT,tT,tT,tT,tT,tT,tT,tT,tT,fF,fF] rfl rfl (any_of HT_.out (by kernel_rfl)) (fun _ _ _ h=>h) (Or.inl ⟨by rfl,?_⟩) ?_ ?_
                   rotate_left
                   ·intro w'
                    go_simp
                    with_reducible rfl
                   rotate_left
                   ·simp only [Act.put,List.setIfInBounds_toArray,List.set_cons_zero,List.set_cons_succ,i64_w,i32_w]
                    rfl
                   exact norm_ (by simp only [putAll,Act.put,List.setIfInBounds_toArray,List.set_cons_zero,List.set_cons_succ]) (hCont (gb325) _ ⟨hHeld,(by (with_reducible repeat (first|apply Kd.qq_|apply Kd.qr_|apply Kd.R_drew));exact HO_9.out),(by (with_reducible repeat (first|refine qe_ ?_ _|refine qg_ ?_|refine qd_ ?_ _));exact BK307.out),(by (with_reducible repeat (first|refine qe_ ?_ _|refine qg_ ?_|refine qd_ ?_ _));exact BK325.out),GW325.out,GE325.out,NB307_325.out,NB325_307.out,(by repeat (first|(with_reducible first|exact HB.out|apply qb_|apply qa_|apply qc_|refine qf_ ?_ GE307.out|refine qf_ ?_ GE325.out)|exact HB.out))⟩)
                 rintro gb325 w50 ⟨hS_,h0_,h1_,h2_,h3_,h4_,h5_,h6_,h7_⟩
                 have n0_:Aside0 (Kd.R k79 79 w50 w.heap.size (fun _=>True) v318 y317):=⟨h0_⟩
                 have n1_:Aside0 (w50.heap[gb307]?=some (.cells #[.int .i64 a2_0,.int .i64 a2_1] 77 (0,0))):=⟨h1_⟩
                 have n2_:Aside0 (w50.heap[gb325]?=some (.cells #[.int .i64 0,.int .i64 0] 77 (0,0))):=⟨h2_⟩
                 have n3_:Aside0 (w.heap.size≤gb325):=⟨h3_⟩
                 have n4_:Aside0 (w.heap.size≤gb325):=⟨h4_⟩
                 have n5_:Aside0 (gb307 ≠ gb325):=⟨h5_⟩
                 have n6_:Aside0 (gb325 ≠ gb307):=⟨h6_⟩
                 have n7_:Aside0 (Below w.heap.size w w50):=⟨h7_⟩
                 clear HO_9
                 clear BK307
                 clear HB
                 clear h0_ h1_ h2_ h3_ h4_ h5_ h6_ h7_
                 have HO_9:=n0_
                 have BK307:=n1_
                 have BK325:=n2_
                 have GW325:=n3_
                 have GE325:=n4_
                 have NB307_325:=n5_
                 have NB325_307:=n6_
                 have HB:=n7_
                 clear n0_ n1_ n2_ n3_ n4_ n5_ n6_ n7_
                 have hHeld:w50.cell? ⟨gb307,0,none⟩=some (.int .i64 a2_0)∧w50.cell? ⟨gb307,1,none⟩=some (.int .i64 a2_1)∧w50.cell? (ad321.add ((x8_3).toNat * 3))=some (.string ((rd_T79 l0 x8_3).f0))∧w50.cell? ⟨(ad321.add ((x8_3).toNat * 3)).block,(ad321.add ((x8_3).toNat * 3)).off+1,none⟩=some (.int .i64 ((rd_T79 l0 x8_3).f1.f0))∧w50.cell? ⟨(ad321.add ((x8_3).toNat * 3)).block,(ad321.add ((x8_3).toNat * 3)).off+2,none⟩=some (.int .i64 ((rd_T79 l0 x8_3).f1.f1)):=hS_
                 refine norm_ (a':=?_) ?_ ?_
                 rotate_left
                 ·simp only [putAll,Act.put,List.setIfInBounds_toArray,List.set_cons_zero,List.set_cons_succ]
                  rfl
                 refine one_ (i:=11) (N:=none) #[tT,tT,tT,tT,tT,tT,tT,tT,tT,tT,tT,tT,fF] rfl rfl (one_of HT_.out (by kernel_rfl)) (by decide) (fun K hK=>?_)
                 have hs51:w50.cell? ⟨gb325,0,none⟩=some (.int .i64 0):=(qi_ BK325.out 0).trans rfl
                 have hfs51:=qh_ BK325.out 0
                 have hns51_0:=NB307_325.out
                 have hms51_0:=NB325_307.out
                 have hs52:w50.cell? ⟨gb325,1,none⟩=some (.int .i64 0):=(qi_ BK325.out 1).trans rfl
                 have hfs52:=qh_ BK325.out 1
                 have hns52_0:=NB307_325.out
                 have hms52_0:=NB325_307.out
                 refine skip_ (w1:=?_) (by rfl) rfl ?_ ?_
                 rotate_left
                 ·go_simp
                  rfl
                 refine hK.out _ _ ⟨((cell_far (p:=⟨gb325,_,none⟩) NB307_325.out _).trans (((cell_far (p:=⟨gb325,_,none⟩) NB307_325.out _).trans (hHeld.1)))),((cell_far (p:=⟨gb325,_,none⟩) NB307_325.out _).trans (((cell_far (p:=⟨gb325,_,none⟩) NB307_325.out _).trans (hHeld.2.1)))),((cell_far (p:=⟨gb325,_,none⟩) (by first|exact Nat.ne_of_lt (Nat.lt_of_lt_of_le (by have:=World.block_lt_of_cell? _ _ hw321_0;first|rwa [add_block] at this|exact this) GW325.out)|(rw [add_block];exact Nat.ne_of_lt (Nat.lt_of_lt_of_le (by have:=World.block_lt_of_cell? _ _ hw321_0;first|rwa [add_block] at this|exact this) GW325.out))|(show (Addr.add _ _).block ≠ _;rw [add_block];exact Nat.ne_of_lt (Nat.lt_of_lt_of_le (by have:=World.block_lt_of_cell? _ _ hw321_0;first|rwa [add_block] at this|exact this) GW325.out))|(dsimp only;exact Nat.ne_of_lt (Nat.lt_of_lt_of_le (by have:=World.block_lt_of_cell? _ _ hw321_0;first|rwa [add_block] at this|exact this) GW325.out))) _).trans (((cell_far (p:=⟨gb325,_,none⟩) (by first|exact Nat.ne_of_lt (Nat.lt_of_lt_of_le (by have:=World.block_lt_of_cell? _ _ hw321_0;first|rwa [add_block] at this|exact this) GW325.out)|(rw [add_block];exact Nat.ne_of_lt (Nat.lt_of_lt_of_le (by have:=World.block_lt_of_cell? _ _ hw321_0;first|rwa [add_block] at this|exact this) GW325.out))|(show (Addr.add _ _).block ≠ _;rw [add_block];exact Nat.ne_of_lt (Nat.lt_of_lt_of_le (by have:=World.block_lt_of_cell? _ _ hw321_0;first|rwa [add_block] at this|exact this) GW325.out))|(dsimp only;exact Nat.ne_of_lt (Nat.lt_of_lt_of_le (by have:=World.block_lt_of_cell? _ _ hw321_0;first|rwa [add_block] at this|exact this) GW325.out))) _).trans (hHeld.2.2.1)))),((cell_far (p:=⟨gb325,_,none⟩) (by first|exact Nat.ne_of_lt (Nat.lt_of_lt_of_le (by have:=World.block_lt_of_cell? _ _ hw321_1;first|rwa [add_block] at this|exact this) GW325.out)|(rw [add_block];exact Nat.ne_of_lt (Nat.lt_of_lt_of_le (by have:=World.block_lt_of_cell? _ _ hw321_1;first|rwa [add_block] at this|exact this) GW325.out))|(show (Addr.add _ _).block ≠ _;rw [add_block];exact Nat.ne_of_lt (Nat.lt_of_lt_of_le (by have:=World.block_lt_of_cell? _ _ hw321_1;first|rwa [add_block] at this|exact this) GW325.out))|(dsimp only;exact Nat.ne_of_lt (Nat.lt_of_lt_of_le (by have:=World.block_lt_of_cell? _ _ hw321_1;first|rwa [add_block] at this|exact this) GW325.out))) _).trans (((cell_far (p:=⟨gb325,_,none⟩) (by first|exact Nat.ne_of_lt (Nat.lt_of_lt_of_le (by have:=World.block_lt_of_cell? _ _ hw321_1;first|rwa [add_block] at this|exact this) GW325.out)|(rw [add_block];exact Nat.ne_of_lt (Nat.lt_of_lt_of_le (by have:=World.block_lt_of_cell? _ _ hw321_1;first|rwa [add_block] at this|exact this) GW325.out))|(show (Addr.add _ _).block ≠ _;rw [add_block];exact Nat.ne_of_lt (Nat.lt_of_lt_of_le (by have:=World.block_lt_of_cell? _ _ hw321_1;first|rwa [add_block] at this|exact this) GW325.out))|(dsimp only;exact Nat.ne_of_lt (Nat.lt_of_lt_of_le (by have:=World.block_lt_of_cell? _ _ hw321_1;first|rwa [add_block] at this|exact this) GW325.out))) _).trans (hHeld.2.2.2.1)))),((cell_far (p:=⟨gb325,_,none⟩) (by first|exact Nat.ne_of_lt (Nat.lt_of_lt_of_le (by have:=World.block_lt_of_cell? _ _ hw321_2;first|rwa [add_block] at this|exact this) GW325.out)|(rw [add_block];exact Nat.ne_of_lt (Nat.lt_of_lt_of_le (by have:=World.block_lt_of_cell? _ _ hw321_2;first|rwa [add_block] at this|exact this) GW325.out))|(show (Addr.add _ _).block ≠ _;rw [add_block];exact Nat.ne_of_lt (Nat.lt_of_lt_of_le (by have:=World.block_lt_of_cell? _ _ hw321_2;first|rwa [add_block] at this|exact this) GW325.out))|(dsimp only;exact Nat.ne_of_lt (Nat.lt_of_lt_of_le (by have:=World.block_lt_of_cell? _ _ hw321_2;first|rwa [add_block] at this|exact this) GW325.out))) _).trans (((cell_far (p:=⟨gb325,_,none⟩) (by first|exact Nat.ne_of_lt (Nat.lt_of_lt_of_le (by have:=World.block_lt_of_cell? _ _ hw321_2;first|rwa [add_block] at this|exact this) GW325.out)|(rw [add_block];exact Nat.ne_of_lt (Nat.lt_of_lt_of_le (by have:=World.block_lt_of_cell? _ _ hw321_2;first|rwa [add_block] at this|exact this) GW325.out))|(show (Addr.add _ _).block ≠ _;rw [add_block];exact Nat.ne_of_lt (Nat.lt_of_lt_of_le (by have:=World.block_lt_of_cell? _ _ hw321_2;first|rwa [add_block] at this|exact this) GW325.out))|(dsimp only;exact Nat.ne_of_lt (Nat.lt_of_lt_of_le (by have:=World.block_lt_of_cell? _ _ hw321_2;first|rwa [add_block] at this|exact this) GW325.out))) _).trans (hHeld.2.2.2.2))))⟩ (fun hHeld=>?_)
                 clear hK K
                 refine pure_ (i:=12) (N:=some 11) (v:=?_) (a':=?_) #[tT,tT,tT,tT,tT,tT,tT,tT,tT,tT,tT,tT,tT] rfl rfl (any_of HT_.out (by kernel_rfl)) (fun _ _ _ h=>h) (Or.inl ⟨by rfl,?_⟩) ?_ ?_
                 rotate_left
                 ·intro w'
                  go_simp
                  with_reducible rfl
                 rotate_left
                 ·simp only [Act.put,List.setIfInBounds_toArray,List.set_cons_zero,List.set_cons_succ,i64_w,i32_w]
                  rfl
                 refine done_ (done_of HT_.out (by kernel_rfl)) ?_
                 have hnb53:=NB325_307.out
                 have hnc53:=NB307_325.out
                 have hcz54_0:w50.cell? ⟨gb325,0,none⟩=some (.int .i64 0):=(qi_ BK325.out 0).trans rfl
                 have hcz54_1:w50.cell? ⟨gb325,1,none⟩=some (.int .i64 0):=(qi_ BK325.out 1).trans rfl
                 have hfz54_0:=qh_ BK325.out 0
                 have hfz54_1:=qh_ BK325.out 1
                 have hcz55_0:w50.cell? ⟨gb307,0,none⟩=some (.int .i64 a2_0):=(qi_ BK307.out 0).trans rfl
                 have hcz55_1:w50.cell? ⟨gb307,1,none⟩=some (.int .i64 a2_1):=(qi_ BK307.out 1).trans rfl
                 have hfz55_0:=qh_ BK307.out 0
                 have hfz55_1:=qh_ BK307.out 1
                 try go_wp2_with (first|((with_reducible refine qt_ (f:=141) rfl ?_);refine goesL_ (some 61) rfl rfl Try.func141 (by kernel_rfl) rfl #[.agg #[.int .i64 t322,.int .i64 t323]] rfl (by (try simp only [List.map_toArray,List.map_cons,List.map_nil]);first|done|rfl|(simp only [List.length_drop,List.length_take];rfl)) ?_;(with_reducible refine (qd2_.calls t322 t323 false _ A24.out).mono ?_);rintro e w56 ⟨rfl,hb⟩;refine ⟨_,rfl,?_⟩;have n0_:=aK (Kd.qj1_ (by (with_reducible repeat (first|apply Kd.qq_|apply Kd.qr_|apply Kd.R_drew));exact (Kd.R_mono (Kd.R_mono (Kd.R_far (p:=⟨gb307,1,none⟩) (Kd.R_far (p:=⟨gb307,0,none⟩) (Kd.R_far (p:=⟨gb325,1,none⟩) (Kd.R_far (p:=⟨gb325,0,none⟩) (Kd.qg2_ (Kd.qg2_ HO_9.out BK325.out (by decide)) BK307.out (by decide)) (fun _ hk=>hk.1.2) (.int .i64 t322)) (fun _ hk=>hk.1.2) (.int .i64 t323)) (fun _ hk=>hk.2) (.int .i64 t322)) (fun _ hk=>hk.2) (.int .i64 t323)) (fun _ h_=>h_.1)) (fun _ h_=>h_.1))) hb);have n1_:=aK (ql_ (g:=gb307) (o:=.cells #[.int .i64 t322,.int .i64 t323] 77 (0,0)) (by (with_reducible repeat (first|refine qe_ ?_ _|refine qg_ ?_|refine qd_ ?_ _));refine qy_ (cs:=#[.int .i64 t322,.int .i64 a2_1]) ?_ 1 _ rfl;(with_reducible repeat (first|refine qe_ ?_ _|refine qg_ ?_|refine qd_ ?_ _));refine qy_ (cs:=#[.int .i64 a2_0,.int .i64 a2_1]) ?_ 0 _ rfl;(with_reducible repeat (first|refine qe_ ?_ _|refine qg_ ?_|refine qd_ ?_ _));refine qa1_ ?_ NB307_325.out _;(with_reducible repeat (first|refine qe_ ?_ _|refine qg_ ?_|refine qd_ ?_ _));refine qa1_ ?_ NB307_325.out _;(with_reducible repeat (first|refine qe_ ?_ _|refine qg_ ?_|refine qd_ ?_ _));exact BK307.out) hb);have n2_:=aK (ql_ (g:=gb325) (o:=.cells #[.int .i64 t322,.int .i64 t323] 77 (0,0)) (by (with_reducible repeat (first|refine qe_ ?_ _|refine qg_ ?_|refine qd_ ?_ _));refine qa1_ ?_ NB325_307.out _;(with_reducible repeat (first|refine qe_ ?_ _|refine qg_ ?_|refine qd_ ?_ _));refine qa1_ ?_ NB325_307.out _;(with_reducible repeat (first|refine qe_ ?_ _|refine qg_ ?_|refine qd_ ?_ _));refine qy_ (cs:=#[.int .i64 t322,.int .i64 0]) ?_ 1 _ rfl;(with_reducible repeat (first|refine qe_ ?_ _|refine qg_ ?_|refine qd_ ?_ _));refine qy_ (cs:=#[.int .i64 0,.int .i64 0]) ?_ 0 _ rfl;(with_reducible repeat (first|refine qe_ ?_ _|refine qg_ ?_|refine qd_ ?_ _));exact BK325.out) hb);have n3_:=aK (qm_ (by repeat (first|(with_reducible first|exact HB.out|apply qb_|apply qa_|apply qc_|refine qf_ ?_ GE307.out|refine qf_ ?_ GE325.out)|exact HB.out)) hb);clear HO_9;clear BK307;clear BK325;clear HB;have HO_9:=n0_;have BK307:=n1_;have BK325:=n2_;have HB:=n3_;clear n0_ n1_ n2_ n3_;(try clear hb);(try clear hb2);(try clear hk);(try clear hi);have hcz57_0:w56.cell? ⟨gb307,0,none⟩=some (.int .i64 t322):=(qi_ BK307.out 0).trans rfl;have hcz57_1:w56.cell? ⟨gb307,1,none⟩=some (.int .i64 t323):=(qi_ BK307.out 1).trans rfl;have hfz57_0:=qh_ BK307.out 0;have hfz57_1:=qh_ BK307.out 1)|((with_reducible refine qv2_ (b:=.append) (xs:=#[.tmp 63,.tmp 67]) rfl ?_);at_builtin;refine Kd.R_append k79 (w0:=w) w.heap.size rfl (.tmp 63) (.tmp 67) 24 79 (.agg #[(.string ⟨#[]⟩),(.int .i64 0),(.int .i64 0)]) 32 rfl Try.underlying24 info79 rfl (by decide) (by omega) v318 y317 (⟨a1,(⟨t322,t323⟩:S77)⟩:S79) [.string a1,.int .i64 t322,.int .i64 t323] (fun _=>True) (fun _=>False) rfl rfl ?aP (fun _ hk=>hk.elim) ?aF ?aO ?aB ?aS ?aL ?_;(case aP=>exact k79_mkM _ _ _ (⟨a1,(⟨t322,t323⟩:S77)⟩:S79));(case aB=>exact (by repeat (first|(with_reducible first|exact HB.out|apply qb_|apply qa_|apply qc_|refine qf_ ?_ GE307.out|refine qf_ ?_ GE325.out)|exact HB.out)));(case aF=>exact (fun _ _=>trivial));(case aO=>exact (by (with_reducible repeat (first|apply Kd.qq_|apply Kd.qr_|apply Kd.R_drew));exact HO_9.out));(case aS=>exact (qk_ (by repeat (first|(with_reducible first|exact HB.out|apply qb_|apply qa_|apply qc_|refine qf_ ?_ GE307.out|refine qf_ ?_ GE325.out)|exact HB.out))));(case aL=>have:=LMc42.out;omega);intro v335 w58 ho hb hg hat;rw [← Ny334.out] at ho;have n0_:=aK (qc3_ (g:=gb307) (o:=.cells #[.int .i64 t322,.int .i64 t323] 77 (0,0)) (by (with_reducible repeat (first|refine qe_ ?_ _|refine qg_ ?_|refine qd_ ?_ _));exact BK307.out) hg (Kd.R_ne HO_9.out BK307.out (by decide)));have n1_:=aK (qc3_ (g:=gb325) (o:=.cells #[.int .i64 t322,.int .i64 t323] 77 (0,0)) (by (with_reducible repeat (first|refine qe_ ?_ _|refine qg_ ?_|refine qd_ ?_ _));exact BK325.out) hg (Kd.R_ne HO_9.out BK325.out (by decide)));have n2_:=aK (hb);have n3_:=aK (ho);clear BK307;clear BK325;clear HB;clear HO_9;have BK307:=n0_;have BK325:=n1_;have HB:=n2_;have HO336:=n3_;clear n0_ n1_ n2_ n3_;clear ho hb hg hat;have q59:((ji43):Int)≤((l0.length:Int):Int):=of_decide_eq_true (by first|(with_reducible assumption)|assumption);obtain ⟨i059,hi059,_,hsz59,_⟩:=info_parts info79;have hroom59:l0.length≤c0:=HC0.out;have hC59:Kd.C k79 _ (some ad321) l0.length l0:=HR0.out;have q059:(0:Int)≤((ji43):Int):=of_decide_eq_true (by first|(with_reducible assumption)|assumption);have hcut59:=cut_from (P:=Try.prog) 24 79 .i64 Try.underlying24 hi059 3 hsz59 (some ad321) l0.length c0 (ji43) q059 q59;have hr59:=Kd.C_drop (m:=((ji43):Int).toNat) (c:=c0) hC59 (by omega) hroom59;obtain ⟨A59,hA59⟩:∃ A1,A1=(if c0=((ji43):Int).toNat then (some ad321) else ((some ad321):Option Addr).map (·.add (((ji43):Int).toNat * 3))):=⟨_,rfl⟩;obtain ⟨c59,hc59⟩:∃ c1,c1=c0 - ((ji43):Int).toNat:=⟨_,rfl⟩;have hy59:y337.length=l0.length - ((ji43):Int).toNat:=(by rw [Ny337.out,List.length_drop] <;> omega);rw [show (l0).drop ((ji43):Int).toNat=y337 from Ny337.out.symm] at hr59;replace hr59:Kd.C k79 _ A59 y337.length y337:=(by rw [hA59];exact hr59);rw [← hy59,← hA59,← hc59] at hcut59;have HR340:=aK hr59;have HC340:=aK (show y337.length≤c59 from by rw [hy59,hc59];exact Nat.sub_le_sub_right hroom59 _);clear hr59 hC59 hroom59 hi059 hsz59 hc59;have KY59:=aK hy59;have KA59:=aK hA59;clear hy59 hA59;replace q59:=eq_true q59)|((with_reducible refine qv2_ (b:=.append) (xs:=#[.tmp 69,.tmp 72]) rfl ?_);at_builtin;refine Kd.qd3_ k79 (w0:=w) w.heap.size rfl (.tmp 69) (.tmp 72) 24 79 (.agg #[(.string ⟨#[]⟩),(.int .i64 0),(.int .i64 0)]) 32 rfl Try.underlying24 info79 rfl (by decide) (by omega) v335 y334 y337 _ _ _ (fun _=>True) (fun _=>False) rfl rfl ?aO ?aR (fun _ _ h=>h) (fun _ h=>h.elim) ?aF ?aB ?aS ?aL ?_;(case aR=>repeat (first|exact (Kd.qn2_ HR340.out HB.out)|(with_reducible refine Kd.qi2_ ?_ _)|(with_reducible refine Kd.qh2_ ?_ _)|(with_reducible refine Kd.C_drew ?_)));(case aB=>exact (by repeat (first|(with_reducible first|exact HB.out|apply qb_|apply qa_|apply qc_|refine qf_ ?_ GE307.out|refine qf_ ?_ GE325.out)|exact HB.out)));(case aF=>exact (fun _ _=>trivial));(case aO=>exact (by (with_reducible repeat (first|apply Kd.qq_|apply Kd.qr_|apply Kd.R_drew));exact HO336.out));(case aS=>exact (qk_ (by repeat (first|(with_reducible first|exact HB.out|apply qb_|apply qa_|apply qc_|refine qf_ ?_ GE307.out|refine qf_ ?_ GE325.out)|exact HB.out))));(case aL=>have:=LMc46.out;omega);intro v342 w60 ho hb hg hat;rw [← Ny341.out] at ho;have n0_:=aK (qc3_ (g:=gb307) (o:=.cells #[.int .i64 t322,.int .i64 t323] 77 (0,0)) (by (with_reducible repeat (first|refine qe_ ?_ _|refine qg_ ?_|refine qd_ ?_ _));exact BK307.out) hg (Kd.R_ne HO336.out BK307.out (by decide)));have n1_:=aK (qc3_ (g:=gb325) (o:=.cells #[.int .i64 t322,.int .i64 t323] 77 (0,0)) (by (with_reducible repeat (first|refine qe_ ?_ _|refine qg_ ?_|refine qd_ ?_ _));exact BK325.out) hg (Kd.R_ne HO336.out BK325.out (by decide)));have n2_:=aK (hb);have n3_:=aK (ho);clear BK307;clear BK325;clear HB;clear HO336;have BK307:=n0_;have BK325:=n1_;have HB:=n2_;have HO343:=n3_;clear n0_ n1_ n2_ n3_;clear ho hb hg hat))
                 go_ret2
                 exact ⟨_,by first|rfl|(simp [qn_,qo_] <;> rfl)|(simp only [← hji43];first|rfl|(simp [qn_,qo_] <;> rfl))|(simp [*,qn_,qo_] <;> rfl),by (with_reducible repeat (first|apply Kd.qq_|apply Kd.qr_|apply Kd.R_drew));exact HO343.out,by repeat (first|(with_reducible first|exact HB.out|apply qb_|apply qa_|apply qc_|refine qf_ ?_ GE307.out|refine qf_ ?_ GE325.out)|exact HB.out)⟩
                ·rw [if_neg c46] at H
                 exact absurd H (by simp)
               ·rw [if_neg c45] at H
                exact absurd H (by simp)
              ·rw [if_neg c44] at H
               exact absurd H (by simp)
             ·rw [if_neg c42] at H
              exact absurd H (by simp)
           ·replace c23:=Bool.eq_false_iff.mpr c23
            subst c23
            have H1:(some (([]:List (S79)),false))=some (r1,r2):=by rw [if_neg (show ¬ (false=true) by decide)] at H;exact H
            clear H
            have H:=H1
            clear H1
            simp only [Option.some.injEq,Prod.mk.injEq] at H
            obtain ⟨rfl,rfl⟩:=H
            try go_wp2
            have n0_:=aK (Kd.R_drew HO_9.out)
            have n1_:=aK (qg_ BK307.out)
            have n2_:=aK (qc_ HB.out)
            clear HO_9
            clear BK307
            clear HB
            have HO_9:=n0_
            have BK307:=n1_
            have HB:=n2_
            clear n0_ n1_ n2_
            have p321:0≤(x8_3:Int):=of_decide_eq_true (by first|(with_reducible assumption)|assumption)
            have q321:x8_3 < (l0.length:Int):=of_decide_eq_true (by first|(with_reducible assumption)|assumption)
            obtain ⟨ad321,e321,hx321_0,hx321_1,hx321_2⟩:=at_T79 HR0.out x8_3 p321 q321
            have hw321_2:=hx321_2
            have hw321_1:=hx321_1
            have hw321_0:=hx321_0
            cases e321
            replace hx321_0:=(HB.out.cell (World.block_lt_of_cell? w _ hx321_0)).trans hx321_0
            replace hx321_1:=(HB.out.cell (World.block_lt_of_cell? w _ hx321_1)).trans hx321_1
            replace hx321_2:=(HB.out.cell (World.block_lt_of_cell? w _ hx321_2)).trans hx321_2
            replace p321:=eq_true p321
            replace q321:=eq_true q321
            refine start_ (n:=13) (S:=fun w'=>w'.cell? ⟨gb307,0,none⟩=some (.int .i64 a2_0)∧w'.cell? ⟨gb307,1,none⟩=some (.int .i64 a2_1)∧w'.cell? (ad321.add ((x8_3).toNat * 3))=some (.string ((rd_T79 l0 x8_3).f0))∧w'.cell? ⟨(ad321.add ((x8_3).toNat * 3)).block,(ad321.add ((x8_3).toNat * 3)).off+1,none⟩=some (.int .i64 ((rd_T79 l0 x8_3).f1.f0))∧w'.cell? ⟨(ad321.add ((x8_3).toNat * 3)).block,(ad321.add ((x8_3).toNat * 3)).off+2,none⟩=some (.int .i64 ((rd_T79 l0 x8_3).f1.f1))) (ds:=[]) #[fF,fF,fF,fF,fF,fF,fF,fF,fF,fF,fF,fF,fF] (by kernel_rfl) rfl rfl ⟨(qi_ BK307.out 0).trans rfl,(qi_ BK307.out 1).trans rfl,((HB.out.cell (World.block_lt_of_cell? w _ hw321_0)).trans hw321_0),((HB.out.cell (World.block_lt_of_cell? w _ hw321_1)).trans hw321_1),((HB.out.cell (World.block_lt_of_cell? w _ hw321_2)).trans hw321_2)⟩ (fun hHeld=>?_);refine with_tabW qs_.tab6 qs_.bits6 (fun HT_ HW_=>?_)
            generalize wc.drew=w61 at HO_9 BK307 HB hx321_0 hx321_1 hx321_2 hHeld ⊢
            refine pure_ (i:=0) (N:=some 46) (v:=?_) (a':=?_) #[tT,fF,fF,fF,fF,fF,fF,fF,fF,fF,fF,fF,fF] rfl rfl (any_of HT_.out (by kernel_rfl)) (fun _ _ _ h=>h) (Or.inl ⟨by rfl,?_⟩) ?_ ?_
            rotate_left
            ·intro w'
             go_simp
             with_reducible rfl
            rotate_left
            ·simp only [Act.put,List.setIfInBounds_toArray,List.set_cons_zero,List.set_cons_succ,i64_w,i32_w]
             rfl
            refine pure_ (i:=1) (N:=some 47) (v:=?_) (a':=?_) #[tT,tT,fF,fF,fF,fF,fF,fF,fF,fF,fF,fF,fF] rfl rfl (any_of HT_.out (by kernel_rfl)) (fun _ _ _ h=>h) (Or.inl ⟨by rfl,?_⟩) ?_ ?_
            rotate_left
            ·intro w'
             go_simp
             with_reducible rfl
            rotate_left
            ·simp only [Act.put,List.setIfInBounds_toArray,List.set_cons_zero,List.set_cons_succ,i64_w,i32_w]
             rfl
            refine pure_ (i:=2) (N:=some 48) (v:=?_) (a':=?_) #[tT,tT,tT,fF,fF,fF,fF,fF,fF,fF,fF,fF,fF] rfl rfl (any_of HT_.out (by kernel_rfl)) (fun _ _ _ h=>h) (Or.inl ⟨by rfl,?_⟩) ?_ ?_
            rotate_left
            ·intro w'
             go_simp
             with_reducible rfl
            rotate_left
            ·simp only [Act.put,List.setIfInBounds_toArray,List.set_cons_zero,List.set_cons_succ,i64_w,i32_w]
             rfl
            refine pure_ (i:=3) (N:=some 49) (v:=?_) (a':=?_) #[tT,tT,tT,tT,fF,fF,fF,fF,fF,fF,fF,fF,fF] rfl rfl (any_of HT_.out (by kernel_rfl)) (fun _ _ _ h=>h) (Or.inl ⟨by rfl,?_⟩) ?_ ?_
            rotate_left
            ·intro w'
             go_simp
             with_reducible rfl
            rotate_left
            ·simp only [Act.put,List.setIfInBounds_toArray,List.set_cons_zero,List.set_cons_succ,i64_w,i32_w]
             rfl
            refine take_ (i:=4) (N:=some 50) (v:=?_) (a':=?_) #[tT,tT,tT,tT,tT,fF,fF,fF,fF,fF,fF,fF,fF] rfl rfl (take_ofW HT_.out HW_.out (by kernel_rfl)) (fun _ _ _ h=>h) (Or.inl ⟨by rfl,?_⟩) hHeld ?_ ?_
            rotate_left
            ·rintro w' ⟨s0,s1,s2,s3,s4⟩
             go_simp
             with_reducible rfl
            rotate_left
            ·simp only [Act.put,List.setIfInBounds_toArray,List.set_cons_zero,List.set_cons_succ,i64_w,i32_w]
             rfl
            refine take_ (i:=5) (N:=some 51) (v:=?_) (a':=?_) #[tT,tT,tT,tT,tT,tT,fF,fF,fF,fF,fF,fF,fF] rfl rfl (take_ofW HT_.out HW_.out (by kernel_rfl)) (fun _ _ _ h=>h) (Or.inl ⟨by rfl,?_⟩) hHeld ?_ ?_
            rotate_left
            ·rintro w' ⟨s0,s1,s2,s3,s4⟩
             go_simp
             with_reducible rfl
            rotate_left
            ·simp only [Act.put,List.setIfInBounds_toArray,List.set_cons_zero,List.set_cons_succ,i64_w,i32_w]
             rfl
            refine join_ (σ:=Nat) 2 #[tT,tT,tT,tT,tT,tT,tT,tT,tT,tT,tT,fF,fF] (fun s_=>[(52,.tuple #[.agg #[.int .i64 t322,.int .i64 t323],.bool false]),(10,.pointer (some ⟨s_,0,none⟩)),(45,.tuple #[.agg #[.int .i64 t322,.int .i64 t323],.bool false]),(53,.agg #[.int .i64 t322,.int .i64 t323]),(54,.bool false)]) (fun s_ w'=>(w'.cell? ⟨gb307,0,none⟩=some (.int .i64 a2_0)∧w'.cell? ⟨gb307,1,none⟩=some (.int .i64 a2_1)∧w'.cell? (ad321.add ((x8_3).toNat * 3))=some (.string ((rd_T79 l0 x8_3).f0))∧w'.cell? ⟨(ad321.add ((x8_3).toNat * 3)).block,(ad321.add ((x8_3).toNat * 3)).off+1,none⟩=some (.int .i64 ((rd_T79 l0 x8_3).f1.f0))∧w'.cell? ⟨(ad321.add ((x8_3).toNat * 3)).block,(ad321.add ((x8_3).toNat * 3)).off+2,none⟩=some (.int .i64 ((rd_T79 l0 x8_3).f1.f1)))∧(Kd.R k79 79 w' w.heap.size (fun _=>True) v318 y317)∧(w'.heap[gb307]?=some (.cells #[.int .i64 a2_0,.int .i64 a2_1] 77 (0,0)))∧(w'.heap[s_]?=some (.cells #[.int .i64 0,.int .i64 0] 77 (0,0)))∧(w.heap.size≤s_)∧(w.heap.size≤s_)∧(gb307 ≠ s_)∧(s_ ≠ gb307)∧(Below w.heap.size w w')) ?_ ?_
            rotate_left
            ·intro hCont
             refine two_ (i:=6) (j:=10) (Ni:=some 52) (Nj:=some 10) #[tT,tT,tT,tT,tT,tT,tT,fF,fF,fF,fF,fF,fF] #[tT,tT,tT,tT,tT,tT,fF,fF,fF,fF,tT,fF,fF] rfl rfl rfl rfl (two_of HT_.out (by kernel_rfl)) (by decide) (by decide) (fun K hK=>?_) (fun K hK=>?_)
             ·skip
              refine goes_ Try.func187 (by kernel_rfl) rfl #[.agg #[.int .i64 ((rd_T79 l0 x8_3).f1.f0),.int .i64 ((rd_T79 l0 x8_3).f1.f1)],.agg #[.int .i64 a2_0,.int .i64 a2_1]] (by rfl) rfl rfl (by (try simp only [List.map_toArray,List.map_cons,List.map_nil]);first|done|rfl|(simp only [List.length_drop,List.length_take];rfl)) ?_
              with_reducible refine (qa2_.calls kj12 ((rd_T79 l0 x8_3).f1.f0) ((rd_T79 l0 x8_3).f1.f1) a2_0 a2_1 t322 t323 false _ A22.out).mono ?_
              rintro e w62 ⟨rfl,hb⟩
              refine ⟨_,rfl,?_⟩
              have n0_:=aK (Kd.qj1_ (by (with_reducible repeat (first|apply Kd.qq_|apply Kd.qr_|apply Kd.R_drew));exact HO_9.out) hb)
              have n1_:=aK (ql_ (g:=gb307) (o:=.cells #[.int .i64 a2_0,.int .i64 a2_1] 77 (0,0)) (by (with_reducible repeat (first|refine qe_ ?_ _|refine qg_ ?_|refine qd_ ?_ _));exact BK307.out) hb)
              have n2_:=aK (qm_ (by repeat (first|(with_reducible first|exact HB.out|apply qb_|apply qa_|apply qc_|refine qf_ ?_ GE307.out)|exact HB.out)) hb)
              clear HO_9
              clear BK307
              clear HB
              have HO_9:=n0_
              have BK307:=n1_
              have HB:=n2_
              clear n0_ n1_ n2_
              (try clear hb)
              (try clear hb2)
              (try clear hk)
              (try clear hi)
              refine hK.out _ _ ⟨(qi_ BK307.out 0).trans rfl,(qi_ BK307.out 1).trans rfl,((HB.out.cell (World.block_lt_of_cell? w _ hw321_0)).trans hw321_0),((HB.out.cell (World.block_lt_of_cell? w _ hw321_1)).trans hw321_1),((HB.out.cell (World.block_lt_of_cell? w _ hw321_2)).trans hw321_2)⟩ (fun hHeld=>?_)
              clear hK K
              refine norm_ (a':=?_) ?_ ?_
              rotate_left
              ·show Act.put _ (some 52) _=_
               simp only [Act.put,List.setIfInBounds_toArray,List.set_cons_zero,List.set_cons_succ,i64_w,i32_w]
               rfl
              refine pure_ (i:=7) (N:=some 45) (v:=?_) (a':=?_) #[tT,tT,tT,tT,tT,tT,tT,tT,fF,fF,fF,fF,fF] rfl rfl (any_of HT_.out (by kernel_rfl)) (fun _ _ _ h=>h) (Or.inl ⟨by rfl,?_⟩) ?_ ?_
              rotate_left
              ·intro w'
               go_simp
               with_reducible rfl
              rotate_left
              ·simp only [Act.put,List.setIfInBounds_toArray,List.set_cons_zero,List.set_cons_succ,i64_w,i32_w]
               rfl
              refine pure_ (i:=8) (N:=some 53) (v:=?_) (a':=?_) #[tT,tT,tT,tT,tT,tT,tT,tT,tT,fF,fF,fF,fF] rfl rfl (any_of HT_.out (by kernel_rfl)) (fun _ _ _ h=>h) (Or.inl ⟨by rfl,?_⟩) ?_ ?_
              rotate_left
              ·intro w'
               go_simp
               with_reducible rfl
              rotate_left
              ·simp only [Act.put,List.setIfInBounds_toArray,List.set_cons_zero,List.set_cons_succ,i64_w,i32_w]
               rfl
              refine pure_ (i:=9) (N:=some 54) (v:=?_) (a':=?_) #[tT,tT,tT,tT,tT,tT,tT,tT,tT,tT,fF,fF,fF] rfl rfl (any_of HT_.out (by kernel_rfl)) (fun _ _ _ h=>h) (Or.inl ⟨by rfl,?_⟩) ?_ ?_
              rotate_left
              ·intro w'
               go_simp
               with_reducible rfl
              rotate_left
              ·simp only [Act.put,List.setIfInBounds_toArray,List.set_cons_zero,List.set_cons_succ,i64_w,i32_w]
               rfl
              refine one_ (i:=10) (N:=some 10) #[tT,tT,tT,tT,tT,tT,tT,tT,tT,tT,tT,fF,fF] rfl rfl (one_of HT_.out (by kernel_rfl)) (by decide) (fun K hK=>?_)
              refine box_step ?hg (N:=10) ?hd (cs:=#[.int .i64 0,.int .i64 0]) (t:=77) ?hr ?_;(case hd=>rfl);(case hg=>rfl);(case hr=>first|(go_simp;done)|(go_simp;rfl))
              intro gb325 hg w63 hbox hb
              have n0_:=aK (Kd.qj1_ (by (with_reducible repeat (first|apply Kd.qq_|apply Kd.qr_|apply Kd.R_drew));exact HO_9.out) hb)
              have n1_:=aK (ql_ (g:=gb307) (o:=.cells #[.int .i64 a2_0,.int .i64 a2_1] 77 (0,0)) (by (with_reducible repeat (first|refine qe_ ?_ _|refine qg_ ?_|refine qd_ ?_ _));exact BK307.out) hb)
              have n2_:=aK (qm_ (by repeat (first|(with_reducible first|exact HB.out|apply qb_|apply qa_|apply qc_|refine qf_ ?_ GE307.out)|exact HB.out)) hb)
              have n3_:=aK (hbox)
              have n4_:=aK ((by rw [hg];exact (qk_ (by repeat (first|(with_reducible first|exact HB.out|apply qb_|apply qa_|apply qc_|refine qf_ ?_ GE307.out)|exact HB.out))):w.heap.size≤gb325))
              have n5_:=aK ((by rw [hg];exact (qk_ (by repeat (first|(with_reducible first|exact HB.out|apply qb_|apply qa_|apply qc_|refine qf_ ?_ GE307.out)|exact HB.out))):w.heap.size≤gb325))
              have n6_:=aK ((by rw [hg];exact Nat.ne_of_lt (blk_lt (g:=gb307) (o:=.cells #[.int .i64 a2_0,.int .i64 a2_1] 77 (0,0)) (by (with_reducible repeat (first|refine qe_ ?_ _|refine qg_ ?_|refine qd_ ?_ _));exact BK307.out)):gb307 ≠ gb325))
              have n7_:=aK ((by rw [hg];exact Nat.ne_of_gt (blk_lt (g:=gb307) (o:=.cells #[.int .i64 a2_0,.int .i64 a2_1] 77 (0,0)) (by (with_reducible repeat (first|refine qe_ ?_ _|refine qg_ ?_|refine qd_ ?_ _));exact BK307.out)):gb325 ≠ gb307))
              clear HO_9
              clear BK307
              clear HB
              have HO_9:=n0_
              have BK307:=n1_
              have HB:=n2_
              have BK325:=n3_
              have GW325:=n4_
              have GE325:=n5_
              have NB307_325:=n6_
              have NB325_307:=n7_
              clear n0_ n1_ n2_ n3_ n4_ n5_ n6_ n7_
              clear hb hbox hg
              refine hK.out _ _ ⟨(qi_ BK307.out 0).trans rfl,(qi_ BK307.out 1).trans rfl,((HB.out.cell (World.block_lt_of_cell? w _ hw321_0)).trans hw321_0),((HB.out.cell (World.block_lt_of_cell? w _ hw321_1)).trans hw321_1),((HB.out.cell (World.block_lt_of_cell? w _ hw321_2)).trans hw321_2)⟩ (fun hHeld=>?_)
              clear hK K
              refine norm_ (a':=?_) ?_ ?_
              rotate_left
              ·show Act.put _ (some 10) _=_
               simp only [Act.put,List.setIfInBounds_toArray,List.set_cons_zero,List.set_cons_succ,i64_w,i32_w]
               rfl
              exact norm_ (by simp only [putAll,Act.put,List.setIfInBounds_toArray,List.set_cons_zero,List.set_cons_succ]) (hCont (gb325) _ ⟨hHeld,(by (with_reducible repeat (first|apply Kd.qq_|apply Kd.qr_|apply Kd.R_drew));exact HO_9.out),(by (with_reducible repeat (first|refine qe_ ?_ _|refine qg_ ?_|refine qd_ ?_ _));exact BK307.out),(by (with_reducible repeat (first|refine qe_ ?_ _|refine qg_ ?_|refine qd_ ?_ _));exact BK325.out),GW325.out,GE325.out,NB307_325.out,NB325_307.out,(by repeat (first|(with_reducible first|exact HB.out|apply qb_|apply qa_|apply qc_|refine qf_ ?_ GE307.out|refine qf_ ?_ GE325.out)|exact HB.out))⟩)
             ·skip
              refine box_step ?hg (N:=10) ?hd (cs:=#[.int .i64 0,.int .i64 0]) (t:=77) ?hr ?_;(case hd=>rfl);(case hg=>rfl);(case hr=>first|(go_simp;done)|(go_simp;rfl))
              intro gb325 hg w62 hbox hb
              have n0_:=aK (Kd.qj1_ (by (with_reducible repeat (first|apply Kd.qq_|apply Kd.qr_|apply Kd.R_drew));exact HO_9.out) hb)
              have n1_:=aK (ql_ (g:=gb307) (o:=.cells #[.int .i64 a2_0,.int .i64 a2_1] 77 (0,0)) (by (with_reducible repeat (first|refine qe_ ?_ _|refine qg_ ?_|refine qd_ ?_ _));exact BK307.out) hb)
              have n2_:=aK (qm_ (by repeat (first|(with_reducible first|exact HB.out|apply qb_|apply qa_|apply qc_|refine qf_ ?_ GE307.out)|exact HB.out)) hb)
              have n3_:=aK (hbox)
              have n4_:=aK ((by rw [hg];exact (qk_ (by repeat (first|(with_reducible first|exact HB.out|apply qb_|apply qa_|apply qc_|refine qf_ ?_ GE307.out)|exact HB.out))):w.heap.size≤gb325))
              have n5_:=aK ((by rw [hg];exact (qk_ (by repeat (first|(with_reducible first|exact HB.out|apply qb_|apply qa_|apply qc_|refine qf_ ?_ GE307.out)|exact HB.out))):w.heap.size≤gb325))
              have n6_:=aK ((by rw [hg];exact Nat.ne_of_lt (blk_lt (g:=gb307) (o:=.cells #[.int .i64 a2_0,.int .i64 a2_1] 77 (0,0)) (by (with_reducible repeat (first|refine qe_ ?_ _|refine qg_ ?_|refine qd_ ?_ _));exact BK307.out)):gb307 ≠ gb325))
              have n7_:=aK ((by rw [hg];exact Nat.ne_of_gt (blk_lt (g:=gb307) (o:=.cells #[.int .i64 a2_0,.int .i64 a2_1] 77 (0,0)) (by (with_reducible repeat (first|refine qe_ ?_ _|refine qg_ ?_|refine qd_ ?_ _));exact BK307.out)):gb325 ≠ gb307))
              clear HO_9
              clear BK307
              clear HB
              have HO_9:=n0_
              have BK307:=n1_
              have HB:=n2_
              have BK325:=n3_
              have GW325:=n4_
              have GE325:=n5_
              have NB307_325:=n6_
              have NB325_307:=n7_
              clear n0_ n1_ n2_ n3_ n4_ n5_ n6_ n7_
              clear hb hbox hg
              refine hK.out _ _ ⟨(qi_ BK307.out 0).trans rfl,(qi_ BK307.out 1).trans rfl,((HB.out.cell (World.block_lt_of_cell? w _ hw321_0)).trans hw321_0),((HB.out.cell (World.block_lt_of_cell? w _ hw321_1)).trans hw321_1),((HB.out.cell (World.block_lt_of_cell? w _ hw321_2)).trans hw321_2)⟩ (fun hHeld=>?_)
              clear hK K
              refine norm_ (a':=?_) ?_ ?_
              rotate_left
              ·show Act.put _ (some 10) _=_
               simp only [Act.put,List.setIfInBounds_toArray,List.set_cons_zero,List.set_cons_succ,i64_w,i32_w]
               rfl
              refine one_ (i:=6) (N:=some 52) #[tT,tT,tT,tT,tT,tT,tT,fF,fF,fF,tT,fF,fF] rfl rfl (one_of HT_.out (by kernel_rfl)) (by decide) (fun K hK=>?_)
              refine goes_ Try.func187 (by kernel_rfl) rfl #[.agg #[.int .i64 ((rd_T79 l0 x8_3).f1.f0),.int .i64 ((rd_T79 l0 x8_3).f1.f1)],.agg #[.int .i64 a2_0,.int .i64 a2_1]] (by rfl) rfl rfl (by (try simp only [List.map_toArray,List.map_cons,List.map_nil]);first|done|rfl|(simp only [List.length_drop,List.length_take];rfl)) ?_
              with_reducible refine (qa2_.calls kj12 ((rd_T79 l0 x8_3).f1.f0) ((rd_T79 l0 x8_3).f1.f1) a2_0 a2_1 t322 t323 false _ A22.out).mono ?_
              rintro e w63 ⟨rfl,hb⟩
              refine ⟨_,rfl,?_⟩
              have n0_:=aK (Kd.qj1_ (by (with_reducible repeat (first|apply Kd.qq_|apply Kd.qr_|apply Kd.R_drew));exact HO_9.out) hb)
              have n1_:=aK (ql_ (g:=gb307) (o:=.cells #[.int .i64 a2_0,.int .i64 a2_1] 77 (0,0)) (by (with_reducible repeat (first|refine qe_ ?_ _|refine qg_ ?_|refine qd_ ?_ _));exact BK307.out) hb)
              have n2_:=aK (ql_ (g:=gb325) (o:=.cells #[.int .i64 0,.int .i64 0] 77 (0,0)) (by (with_reducible repeat (first|refine qe_ ?_ _|refine qg_ ?_|refine qd_ ?_ _));exact BK325.out) hb)
              have n3_:=aK (qm_ (by repeat (first|(with_reducible first|exact HB.out|apply qb_|apply qa_|apply qc_|refine qf_ ?_ GE307.out|refine qf_ ?_ GE325.out)|exact HB.out)) hb)
              clear HO_9
              clear BK307
              clear BK325
              clear HB
              have HO_9:=n0_
              have BK307:=n1_
              have BK325:=n2_
              have HB:=n3_
              clear n0_ n1_ n2_ n3_
              (try clear hb)
              (try clear hb2)
              (try clear hk)
              (try clear hi)
              refine hK.out _ _ ⟨(qi_ BK307.out 0).trans rfl,(qi_ BK307.out 1).trans rfl,((HB.out.cell (World.block_lt_of_cell? w _ hw321_0)).trans hw321_0),((HB.out.cell (World.block_lt_of_cell? w _ hw321_1)).trans hw321_1),((HB.out.cell (World.block_lt_of_cell? w _ hw321_2)).trans hw321_2)⟩ (fun hHeld=>?_)
              clear hK K
              refine norm_ (a':=?_) ?_ ?_
              rotate_left
              ·show Act.put _ (some 52) _=_
               simp only [Act.put,List.setIfInBounds_toArray,List.set_cons_zero,List.set_cons_succ,i64_w,i32_w]
               rfl
              refine pure_ (i:=7) (N:=some 45) (v:=?_) (a':=?_) #[tT,tT,tT,tT,tT,tT,tT,tT,fF,fF,tT,fF,fF] rfl rfl (any_of HT_.out (by kernel_rfl)) (fun _ _ _ h=>h) (Or.inl ⟨by rfl,?_⟩) ?_ ?_
              rotate_left
              ·intro w'
               go_simp
               with_reducible rfl
              rotate_left
              ·simp only [Act.put,List.setIfInBounds_toArray,List.set_cons_zero,List.set_cons_succ,i64_w,i32_w]
               rfl
              refine pure_ (i:=8) (N:=some 53) (v:=?_) (a':=?_) #[tT,tT,tT,tT,tT,tT,tT,tT,tT,fF,tT,fF,fF] rfl rfl (any_of HT_.out (by kernel_rfl)) (fun _ _ _ h=>h) (Or.inl ⟨by rfl,?_⟩) ?_ ?_
              rotate_left
              ·intro w'
               go_simp
               with_reducible rfl
              rotate_left
              ·simp only [Act.put,List.setIfInBounds_toArray,List.set_cons_zero,List.set_cons_succ,i64_w,i32_w]
               rfl
              refine pure_ (i:=9) (N:=some 54) (v:=?_) (a':=?_) #[tT,tT,tT,tT,tT,tT,tT,tT,tT,tT,tT,fF,fF] rfl rfl (any_of HT_.out (by kernel_rfl)) (fun _ _ _ h=>h) (Or.inl ⟨by rfl,?_⟩) ?_ ?_
              rotate_left
              ·intro w'
               go_simp
               with_reducible rfl
              rotate_left
              ·simp only [Act.put,List.setIfInBounds_toArray,List.set_cons_zero,List.set_cons_succ,i64_w,i32_w]
               rfl
              exact norm_ (by simp only [putAll,Act.put,List.setIfInBounds_toArray,List.set_cons_zero,List.set_cons_succ]) (hCont (gb325) _ ⟨hHeld,(by (with_reducible repeat (first|apply Kd.qq_|apply Kd.qr_|apply Kd.R_drew));exact HO_9.out),(by (with_reducible repeat (first|refine qe_ ?_ _|refine qg_ ?_|refine qd_ ?_ _));exact BK307.out),(by (with_reducible repeat (first|refine qe_ ?_ _|refine qg_ ?_|refine qd_ ?_ _));exact BK325.out),GW325.out,GE325.out,NB307_325.out,NB325_307.out,(by repeat (first|(with_reducible first|exact HB.out|apply qb_|apply qa_|apply qc_|refine qf_ ?_ GE307.out|refine qf_ ?_ GE325.out)|exact HB.out))⟩)
            rintro gb325 w64 ⟨hS_,h0_,h1_,h2_,h3_,h4_,h5_,h6_,h7_⟩
            have n0_:Aside0 (Kd.R k79 79 w64 w.heap.size (fun _=>True) v318 y317):=⟨h0_⟩
            have n1_:Aside0 (w64.heap[gb307]?=some (.cells #[.int .i64 a2_0,.int .i64 a2_1] 77 (0,0))):=⟨h1_⟩
            have n2_:Aside0 (w64.heap[gb325]?=some (.cells #[.int .i64 0,.int .i64 0] 77 (0,0))):=⟨h2_⟩
            have n3_:Aside0 (w.heap.size≤gb325):=⟨h3_⟩
            have n4_:Aside0 (w.heap.size≤gb325):=⟨h4_⟩
            have n5_:Aside0 (gb307 ≠ gb325):=⟨h5_⟩
            have n6_:Aside0 (gb325 ≠ gb307):=⟨h6_⟩
            have n7_:Aside0 (Below w.heap.size w w64):=⟨h7_⟩
            clear HO_9
            clear BK307
            clear HB
            clear h0_ h1_ h2_ h3_ h4_ h5_ h6_ h7_
            have HO_9:=n0_
            have BK307:=n1_
            have BK325:=n2_
            have GW325:=n3_
            have GE325:=n4_
            have NB307_325:=n5_
            have NB325_307:=n6_
            have HB:=n7_
            clear n0_ n1_ n2_ n3_ n4_ n5_ n6_ n7_
            have hHeld:w64.cell? ⟨gb307,0,none⟩=some (.int .i64 a2_0)∧w64.cell? ⟨gb307,1,none⟩=some (.int .i64 a2_1)∧w64.cell? (ad321.add ((x8_3).toNat * 3))=some (.string ((rd_T79 l0 x8_3).f0))∧w64.cell? ⟨(ad321.add ((x8_3).toNat * 3)).block,(ad321.add ((x8_3).toNat * 3)).off+1,none⟩=some (.int .i64 ((rd_T79 l0 x8_3).f1.f0))∧w64.cell? ⟨(ad321.add ((x8_3).toNat * 3)).block,(ad321.add ((x8_3).toNat * 3)).off+2,none⟩=some (.int .i64 ((rd_T79 l0 x8_3).f1.f1)):=hS_
            refine norm_ (a':=?_) ?_ ?_
            rotate_left
            ·simp only [putAll,Act.put,List.setIfInBounds_toArray,List.set_cons_zero,List.set_cons_succ]
             rfl
            refine one_ (i:=11) (N:=none) #[tT,tT,tT,tT,tT,tT,tT,tT,tT,tT,tT,tT,fF] rfl rfl (one_of HT_.out (by kernel_rfl)) (by decide) (fun K hK=>?_)
            have hs65:w64.cell? ⟨gb325,0,none⟩=some (.int .i64 0):=(qi_ BK325.out 0).trans rfl
            have hfs65:=qh_ BK325.out 0
            have hns65_0:=NB307_325.out
            have hms65_0:=NB325_307.out
            have hs66:w64.cell? ⟨gb325,1,none⟩=some (.int .i64 0):=(qi_ BK325.out 1).trans rfl
            have hfs66:=qh_ BK325.out 1
            have hns66_0:=NB307_325.out
            have hms66_0:=NB325_307.out
            refine skip_ (w1:=?_) (by rfl) rfl ?_ ?_
            rotate_left
            ·go_simp
             rfl
            refine hK.out _ _ ⟨((cell_far (p:=⟨gb325,_,none⟩) NB307_325.out _).trans (((cell_far (p:=⟨gb325,_,none⟩) NB307_325.out _).trans (hHeld.1)))),((cell_far (p:=⟨gb325,_,none⟩) NB307_325.out _).trans (((cell_far (p:=⟨gb325,_,none⟩) NB307_325.out _).trans (hHeld.2.1)))),((cell_far (p:=⟨gb325,_,none⟩) (by first|exact Nat.ne_of_lt (Nat.lt_of_lt_of_le (by have:=World.block_lt_of_cell? _ _ hw321_0;first|rwa [add_block] at this|exact this) GW325.out)|(rw [add_block];exact Nat.ne_of_lt (Nat.lt_of_lt_of_le (by have:=World.block_lt_of_cell? _ _ hw321_0;first|rwa [add_block] at this|exact this) GW325.out))|(show (Addr.add _ _).block ≠ _;rw [add_block];exact Nat.ne_of_lt (Nat.lt_of_lt_of_le (by have:=World.block_lt_of_cell? _ _ hw321_0;first|rwa [add_block] at this|exact this) GW325.out))|(dsimp only;exact Nat.ne_of_lt (Nat.lt_of_lt_of_le (by have:=World.block_lt_of_cell? _ _ hw321_0;first|rwa [add_block] at this|exact this) GW325.out))) _).trans (((cell_far (p:=⟨gb325,_,none⟩) (by first|exact Nat.ne_of_lt (Nat.lt_of_lt_of_le (by have:=World.block_lt_of_cell? _ _ hw321_0;first|rwa [add_block] at this|exact this) GW325.out)|(rw [add_block];exact Nat.ne_of_lt (Nat.lt_of_lt_of_le (by have:=World.block_lt_of_cell? _ _ hw321_0;first|rwa [add_block] at this|exact this) GW325.out))|(show (Addr.add _ _).block ≠ _;rw [add_block];exact Nat.ne_of_lt (Nat.lt_of_lt_of_le (by have:=World.block_lt_of_cell? _ _ hw321_0;first|rwa [add_block] at this|exact this) GW325.out))|(dsimp only;exact Nat.ne_of_lt (Nat.lt_of_lt_of_le (by have:=World.block_lt_of_cell? _ _ hw321_0;first|rwa [add_block] at this|exact this) GW325.out))) _).trans (hHeld.2.2.1)))),((cell_far (p:=⟨gb325,_,none⟩) (by first|exact Nat.ne_of_lt (Nat.lt_of_lt_of_le (by have:=World.block_lt_of_cell? _ _ hw321_1;first|rwa [add_block] at this|exact this) GW325.out)|(rw [add_block];exact Nat.ne_of_lt (Nat.lt_of_lt_of_le (by have:=World.block_lt_of_cell? _ _ hw321_1;first|rwa [add_block] at this|exact this) GW325.out))|(show (Addr.add _ _).block ≠ _;rw [add_block];exact Nat.ne_of_lt (Nat.lt_of_lt_of_le (by have:=World.block_lt_of_cell? _ _ hw321_1;first|rwa [add_block] at this|exact this) GW325.out))|(dsimp only;exact Nat.ne_of_lt (Nat.lt_of_lt_of_le (by have:=World.block_lt_of_cell? _ _ hw321_1;first|rwa [add_block] at this|exact this) GW325.out))) _).trans (((cell_far (p:=⟨gb325,_,none⟩) (by first|exact Nat.ne_of_lt (Nat.lt_of_lt_of_le (by have:=World.block_lt_of_cell? _ _ hw321_1;first|rwa [add_block] at this|exact this) GW325.out)|(rw [add_block];exact Nat.ne_of_lt (Nat.lt_of_lt_of_le (by have:=World.block_lt_of_cell? _ _ hw321_1;first|rwa [add_block] at this|exact this) GW325.out))|(show (Addr.add _ _).block ≠ _;rw [add_block];exact Nat.ne_of_lt (Nat.lt_of_lt_of_le (by have:=World.block_lt_of_cell? _ _ hw321_1;first|rwa [add_block] at this|exact this) GW325.out))|(dsimp only;exact Nat.ne_of_lt (Nat.lt_of_lt_of_le (by have:=World.block_lt_of_cell? _ _ hw321_1;first|rwa [add_block] at this|exact this) GW325.out))) _).trans (hHeld.2.2.2.1)))),((cell_far (p:=⟨gb325,_,none⟩) (by first|exact Nat.ne_of_lt (Nat.lt_of_lt_of_le (by have:=World.block_lt_of_cell? _ _ hw321_2;first|rwa [add_block] at this|exact this) GW325.out)|(rw [add_block];exact Nat.ne_of_lt (Nat.lt_of_lt_of_le (by have:=World.block_lt_of_cell? _ _ hw321_2;first|rwa [add_block] at this|exact this) GW325.out))|(show (Addr.add _ _).block ≠ _;rw [add_block];exact Nat.ne_of_lt (Nat.lt_of_lt_of_le (by have:=World.block_lt_of_cell? _ _ hw321_2;first|rwa [add_block] at this|exact this) GW325.out))|(dsimp only;exact Nat.ne_of_lt (Nat.lt_of_lt_of_le (by have:=World.block_lt_of_cell? _ _ hw321_2;first|rwa [add_block] at this|exact this) GW325.out))) _).trans (((cell_far (p:=⟨gb325,_,none⟩) (by first|exact Nat.ne_of_lt (Nat.lt_of_lt_of_le (by have:=World.block_lt_of_cell? _ _ hw321_2;first|rwa [add_block] at this|exact this) GW325.out)|(rw [add_block];exact Nat.ne_of_lt (Nat.lt_of_lt_of_le (by have:=World.block_lt_of_cell? _ _ hw321_2;first|rwa [add_block] at this|exact this) GW325.out))|(show (Addr.add _ _).block ≠ _;rw [add_block];exact Nat.ne_of_lt (Nat.lt_of_lt_of_le (by have:=World.block_lt_of_cell? _ _ hw321_2;first|rwa [add_block] at this|exact this) GW325.out))|(dsimp only;exact Nat.ne_of_lt (Nat.lt_of_lt_of_le (by have:=World.block_lt_of_cell? _ _ hw321_2;first|rwa [add_block] at this|exact this) GW325.out))) _).trans (hHeld.2.2.2.2))))⟩ (fun hHeld=>?_)
            clear hK K
            refine pure_ (i:=12) (N:=some 11) (v:=?_) (a':=?_) #[tT,tT,tT,tT,tT,tT,tT,tT,tT,tT,tT,tT,tT] rfl rfl (any_of HT_.out (by kernel_rfl)) (fun _ _ _ h=>h) (Or.inl ⟨by rfl,?_⟩) ?_ ?_
            rotate_left
            ·intro w'
             go_simp
             with_reducible rfl
            rotate_left
            ·simp only [Act.put,List.setIfInBounds_toArray,List.set_cons_zero,List.set_cons_succ,i64_w,i32_w]
             rfl
            refine done_ (done_of HT_.out (by kernel_rfl)) ?_
            try go_wp2
            go_ret2
            exact ⟨_,by first|rfl|(simp [qn_,qo_] <;> rfl)|(simp [*,qn_,qo_] <;> rfl),by first|exact Kd.R_nil _ _ _ _ _|exact Kd.N_nil _ _ _ _ _|exact Kd.V_nil _ _ _ _ _|exact Kd.Q_nil _ _ _ _ _|exact Kd.S_nil _ _ _ _ _,by repeat (first|(with_reducible first|exact HB.out|apply qb_|apply qa_|apply qc_|refine qf_ ?_ GE307.out|refine qf_ ?_ GE325.out)|exact HB.out)⟩
          ·rw [if_neg c21] at H
           exact absurd H (by simp)
         ·rw [if_neg c20] at H
          exact absurd H (by simp)
        ·replace c19:=Bool.eq_false_iff.mpr c19
         subst c19
         have H1:((qd2_.f a2_0 a2_1).bind fun t344=>(if t344=true then (if 0≤x8_3 then (if x8_3≤(l0.length:Int) then ((some (l0.drop (x8_3:Int).toNat:List (S79))).bind fun y345=>(if y317.length+y345.length < 4398046511104 then (some ((y317 ++ y345),true)) else (none))) else (none)) else (none)) else (if y317.length < 4398046511104 then ((some (y317 ++ [(⟨a1,(⟨a2_0,a2_1⟩:S77)⟩:S79)]:List (S79))).bind fun y352=>(if 0≤x8_3 then (if x8_3≤(l0.length:Int) then ((some (l0.drop (x8_3:Int).toNat:List (S79))).bind fun y355=>(if y352.length+y355.length < 4398046511104 then (some ((y352 ++ y355),true)) else (none))) else (none)) else (none))) else (none))))=some (r1,r2):=by rw [if_neg (show ¬ (false=true) by decide)] at H;exact H
         clear H
         have H:=H1
         clear H1
         replace H:=Option.bind_eq_some_iff.mp H
         obtain ⟨t344,A670,H⟩:=H
         replace H:(if t344=true then (if 0≤x8_3 then (if x8_3≤(l0.length:Int) then ((some (l0.drop (x8_3:Int).toNat:List (S79))).bind fun y345=>(if y317.length+y345.length < 4398046511104 then (some ((y317 ++ y345),true)) else (none))) else (none)) else (none)) else (if y317.length < 4398046511104 then ((some (y317 ++ [(⟨a1,(⟨a2_0,a2_1⟩:S77)⟩:S79)]:List (S79))).bind fun y352=>(if 0≤x8_3 then (if x8_3≤(l0.length:Int) then ((some (l0.drop (x8_3:Int).toNat:List (S79))).bind fun y355=>(if y352.length+y355.length < 4398046511104 then (some ((y352 ++ y355),true)) else (none))) else (none)) else (none))) else (none)))=some (r1,r2):=H
         have A67:=aK A670
         clear A670
         by_cases c68:t344=true
         ·subst c68
          have H1:(if 0≤x8_3 then (if x8_3≤(l0.length:Int) then ((some (l0.drop (x8_3:Int).toNat:List (S79))).bind fun y345=>(if y317.length+y345.length < 4398046511104 then (some ((y317 ++ y345),true)) else (none))) else (none)) else (none))=some (r1,r2):=by rw [if_pos rfl] at H;exact H
          clear H
          have H:=H1
          clear H1
          by_cases c69:0≤x8_3
          ·rw [if_pos c69] at H
           have c69b0:=eq_true c69
           have c69b1:decide (0≤x8_3)=true:=decide_eq_true c69
           clear c69
           by_cases c70:x8_3≤(l0.length:Int)
           ·rw [if_pos c70] at H
            have c70b0:=eq_true c70
            have c70b1:decide (x8_3≤(l0.length:Int))=true:=decide_eq_true c70
            clear c70
            obtain ⟨y345,hy345⟩:∃ y_:List (S79),y_=(l0.drop (x8_3:Int).toNat):=⟨_,rfl⟩
            replace H:(if y317.length+y345.length < 4398046511104 then (some ((y317 ++ y345),true)) else (none))=some (r1,r2):=by first|(rw [hy345];with_reducible exact H)|(have H2_:=(Option.bind_some _ _).symm.trans H;rw [hy345];with_reducible exact H2_)|(have H2_:=(Option.bind_some _ _).symm.trans H;with_reducible exact H2_)|with_reducible exact H|(rw [hy345];exact H)|exact H
            have Ny345:=aK hy345
            clear hy345
            by_cases c71:y317.length+y345.length < 4398046511104
            ·rw [if_pos c71] at H
             have LMc71:=aK c71
             clear c71
             obtain ⟨y349,hy349⟩:∃ y_:List (S79),y_=(y317 ++ y345):=⟨_,rfl⟩
             replace H:(some (y349,true))=some (r1,r2):=by first|(rw [hy349];with_reducible exact H)|(have H2_:=(Option.bind_some _ _).symm.trans H;rw [hy349];with_reducible exact H2_)|(have H2_:=(Option.bind_some _ _).symm.trans H;with_reducible exact H2_)|with_reducible exact H|(rw [hy349];exact H)|exact H
             have Ny349:=aK hy349
             clear hy349
             simp only [Option.some.injEq,Prod.mk.injEq] at H
             obtain ⟨rfl,rfl⟩:=H
             have hcz72_0:wc.cell? ⟨gb307,0,none⟩=some (.int .i64 a2_0):=(qi_ BK307.out 0).trans rfl
             have hcz72_1:wc.cell? ⟨gb307,1,none⟩=some (.int .i64 a2_1):=(qi_ BK307.out 1).trans rfl
             have hfz72_0:=qh_ BK307.out 0
             have hfz72_1:=qh_ BK307.out 1
             go_wp2_with (first|((with_reducible refine qt_ (f:=141) rfl ?_);refine goesL_ (some 61) rfl rfl Try.func141 (by kernel_rfl) rfl #[.agg #[.int .i64 a2_0,.int .i64 a2_1]] rfl (by (try simp only [List.map_toArray,List.map_cons,List.map_nil]);first|done|rfl|(simp only [List.length_drop,List.length_take];rfl)) ?_;(with_reducible refine (qd2_.calls a2_0 a2_1 true _ A67.out).mono ?_);rintro e w73 ⟨rfl,hb⟩;refine ⟨_,rfl,?_⟩;have n0_:=aK (Kd.qj1_ (by (with_reducible repeat (first|apply Kd.qq_|apply Kd.qr_|apply Kd.R_drew));exact HO_9.out) hb);have n1_:=aK (ql_ (g:=gb307) (o:=.cells #[.int .i64 a2_0,.int .i64 a2_1] 77 (0,0)) (by (with_reducible repeat (first|refine qe_ ?_ _|refine qg_ ?_|refine qd_ ?_ _));exact BK307.out) hb);have n2_:=aK (qm_ (by repeat (first|(with_reducible first|exact HB.out|apply qb_|apply qa_|apply qc_|refine qf_ ?_ GE307.out)|exact HB.out)) hb);clear HO_9;clear BK307;clear HB;have HO_9:=n0_;have BK307:=n1_;have HB:=n2_;clear n0_ n1_ n2_;(try clear hb);(try clear hb2);(try clear hk);(try clear hi);have q74:(x8_3:Int)≤((l0.length:Int):Int):=of_decide_eq_true (by first|(with_reducible assumption)|assumption);obtain ⟨i074,hi074,_,hsz74,_⟩:=info_parts info79;have hroom74:l0.length≤c0:=HC0.out;have hC74:Kd.C k79 _ A0 l0.length l0:=HR0.out;have q074:(0:Int)≤(x8_3:Int):=of_decide_eq_true (by first|(with_reducible assumption)|assumption);have hcut74:=cut_from (P:=Try.prog) 24 79 .i64 Try.underlying24 hi074 3 hsz74 A0 l0.length c0 x8_3 q074 q74;have hr74:=Kd.C_drop (m:=(x8_3:Int).toNat) (c:=c0) hC74 (by omega) hroom74;obtain ⟨A74,hA74⟩:∃ A1,A1=(if c0=(x8_3:Int).toNat then A0 else (A0:Option Addr).map (·.add ((x8_3:Int).toNat * 3))):=⟨_,rfl⟩;obtain ⟨c74,hc74⟩:∃ c1,c1=c0 - (x8_3:Int).toNat:=⟨_,rfl⟩;have hy74:y345.length=l0.length - (x8_3:Int).toNat:=(by rw [Ny345.out,List.length_drop] <;> omega);rw [show (l0).drop (x8_3:Int).toNat=y345 from Ny345.out.symm] at hr74;replace hr74:Kd.C k79 _ A74 y345.length y345:=(by rw [hA74];exact hr74);rw [← hy74,← hA74,← hc74] at hcut74;have HR348:=aK hr74;have HC348:=aK (show y345.length≤c74 from by rw [hy74,hc74];exact Nat.sub_le_sub_right hroom74 _);clear hr74 hC74 hroom74 hi074 hsz74 hc74;have KY74:=aK hy74;have KA74:=aK hA74;clear hy74 hA74;replace q74:=eq_true q74)|((with_reducible refine qv2_ (b:=.append) (xs:=#[.tmp 69,.tmp 72]) rfl ?_);at_builtin;refine Kd.qd3_ k79 (w0:=w) w.heap.size rfl (.tmp 69) (.tmp 72) 24 79 (.agg #[(.string ⟨#[]⟩),(.int .i64 0),(.int .i64 0)]) 32 rfl Try.underlying24 info79 rfl (by decide) (by omega) v318 y317 y345 _ _ _ (fun _=>True) (fun _=>False) rfl rfl ?aO ?aR (fun _ _ h=>h) (fun _ h=>h.elim) ?aF ?aB ?aS ?aL ?_;(case aR=>repeat (first|exact (Kd.qn2_ HR348.out HB.out)|(with_reducible refine Kd.qi2_ ?_ _)|(with_reducible refine Kd.qh2_ ?_ _)|(with_reducible refine Kd.C_drew ?_)));(case aB=>exact (by repeat (first|(with_reducible first|exact HB.out|apply qb_|apply qa_|apply qc_|refine qf_ ?_ GE307.out)|exact HB.out)));(case aF=>exact (fun _ _=>trivial));(case aO=>exact (by (with_reducible repeat (first|apply Kd.qq_|apply Kd.qr_|apply Kd.R_drew));exact HO_9.out));(case aS=>exact (qk_ (by repeat (first|(with_reducible first|exact HB.out|apply qb_|apply qa_|apply qc_|refine qf_ ?_ GE307.out)|exact HB.out))));(case aL=>have:=LMc71.out;omega);intro v350 w75 ho hb hg hat;rw [← Ny349.out] at ho;have n0_:=aK (qc3_ (g:=gb307) (o:=.cells #[.int .i64 a2_0,.int .i64 a2_1] 77 (0,0)) (by (with_reducible repeat (first|refine qe_ ?_ _|refine qg_ ?_|refine qd_ ?_ _));exact BK307.out) hg (Kd.R_ne HO_9.out BK307.out (by decide)));have n1_:=aK (hb);have n2_:=aK (ho);clear BK307;clear HB;clear HO_9;have BK307:=n0_;have HB:=n1_;have HO351:=n2_;clear n0_ n1_ n2_;clear ho hb hg hat))
             go_ret2
             exact ⟨_,by first|rfl|(simp [qn_,qo_] <;> rfl)|(simp [*,qn_,qo_] <;> rfl),by (with_reducible repeat (first|apply Kd.qq_|apply Kd.qr_|apply Kd.R_drew));exact HO351.out,by repeat (first|(with_reducible first|exact HB.out|apply qb_|apply qa_|apply qc_|refine qf_ ?_ GE307.out)|exact HB.out)⟩
            ·rw [if_neg c71] at H
             exact absurd H (by simp)
           ·rw [if_neg c70] at H
            exact absurd H (by simp)
          ·rw [if_neg c69] at H
           exact absurd H (by simp)
         ·replace c68:=Bool.eq_false_iff.mpr c68
          subst c68
          have H1:(if y317.length < 4398046511104 then ((some (y317 ++ [(⟨a1,(⟨a2_0,a2_1⟩:S77)⟩:S79)]:List (S79))).bind fun y352=>(if 0≤x8_3 then (if x8_3≤(l0.length:Int) then ((some (l0.drop (x8_3:Int).toNat:List (S79))).bind fun y355=>(if y352.length+y355.length < 4398046511104 then (some ((y352 ++ y355),true)) else (none))) else (none)) else (none))) else (none))=some (r1,r2):=by rw [if_neg (show ¬ (false=true) by decide)] at H;exact H
          clear H
          have H:=H1
          clear H1
          by_cases c76:y317.length < 4398046511104
          ·rw [if_pos c76] at H
           have LMc76:=aK c76
           clear c76
           obtain ⟨y352,hy352⟩:∃ y_:List (S79),y_=(y317 ++ [(⟨a1,(⟨a2_0,a2_1⟩:S77)⟩:S79)]):=⟨_,rfl⟩
           replace H:(if 0≤x8_3 then (if x8_3≤(l0.length:Int) then ((some (l0.drop (x8_3:Int).toNat:List (S79))).bind fun y355=>(if y352.length+y355.length < 4398046511104 then (some ((y352 ++ y355),true)) else (none))) else (none)) else (none))=some (r1,r2):=by first|(rw [hy352];with_reducible exact H)|(have H2_:=(Option.bind_some _ _).symm.trans H;rw [hy352];with_reducible exact H2_)|(have H2_:=(Option.bind_some _ _).symm.trans H;with_reducible exact H2_)|with_reducible exact H|(rw [hy352];exact H)|exact H
           have Ny352:=aK hy352
           clear hy352
           by_cases c77:0≤x8_3
           ·rw [if_pos c77] at H
            have c77b0:=eq_true c77
            have c77b1:decide (0≤x8_3)=true:=decide_eq_true c77
            clear c77
            by_cases c78:x8_3≤(l0.length:Int)
            ·rw [if_pos c78] at H
             have c78b0:=eq_true c78
             have c78b1:decide (x8_3≤(l0.length:Int))=true:=decide_eq_true c78
             clear c78
             obtain ⟨y355,hy355⟩:∃ y_:List (S79),y_=(l0.drop (x8_3:Int).toNat):=⟨_,rfl⟩
             replace H:(if y352.length+y355.length < 4398046511104 then (some ((y352 ++ y355),true)) else (none))=some (r1,r2):=by first|(rw [hy355];with_reducible exact H)|(have H2_:=(Option.bind_some _ _).symm.trans H;rw [hy355];with_reducible exact H2_)|(have H2_:=(Option.bind_some _ _).symm.trans H;with_reducible exact H2_)|with_reducible exact H|(rw [hy355];exact H)|exact H
             have Ny355:=aK hy355
             clear hy355
             by_cases c79:y352.length+y355.length < 4398046511104
             ·rw [if_pos c79] at H
              have LMc79:=aK c79
              clear c79
              obtain ⟨y359,hy359⟩:∃ y_:List (S79),y_=(y352 ++ y355):=⟨_,rfl⟩
              replace H:(some (y359,true))=some (r1,r2):=by first|(rw [hy359];with_reducible exact H)|(have H2_:=(Option.bind_some _ _).symm.trans H;rw [hy359];with_reducible exact H2_)|(have H2_:=(Option.bind_some _ _).symm.trans H;with_reducible exact H2_)|with_reducible exact H|(rw [hy359];exact H)|exact H
              have Ny359:=aK hy359
              clear hy359
              simp only [Option.some.injEq,Prod.mk.injEq] at H
              obtain ⟨rfl,rfl⟩:=H
              have hcz80_0:wc.cell? ⟨gb307,0,none⟩=some (.int .i64 a2_0):=(qi_ BK307.out 0).trans rfl
              have hcz80_1:wc.cell? ⟨gb307,1,none⟩=some (.int .i64 a2_1):=(qi_ BK307.out 1).trans rfl
              have hfz80_0:=qh_ BK307.out 0
              have hfz80_1:=qh_ BK307.out 1
              go_wp2_with (first|((with_reducible refine qt_ (f:=141) rfl ?_);refine goesL_ (some 61) rfl rfl Try.func141 (by kernel_rfl) rfl #[.agg #[.int .i64 a2_0,.int .i64 a2_1]] rfl (by (try simp only [List.map_toArray,List.map_cons,List.map_nil]);first|done|rfl|(simp only [List.length_drop,List.length_take];rfl)) ?_;(with_reducible refine (qd2_.calls a2_0 a2_1 false _ A67.out).mono ?_);rintro e w81 ⟨rfl,hb⟩;refine ⟨_,rfl,?_⟩;have n0_:=aK (Kd.qj1_ (by (with_reducible repeat (first|apply Kd.qq_|apply Kd.qr_|apply Kd.R_drew));exact HO_9.out) hb);have n1_:=aK (ql_ (g:=gb307) (o:=.cells #[.int .i64 a2_0,.int .i64 a2_1] 77 (0,0)) (by (with_reducible repeat (first|refine qe_ ?_ _|refine qg_ ?_|refine qd_ ?_ _));exact BK307.out) hb);have n2_:=aK (qm_ (by repeat (first|(with_reducible first|exact HB.out|apply qb_|apply qa_|apply qc_|refine qf_ ?_ GE307.out)|exact HB.out)) hb);clear HO_9;clear BK307;clear HB;have HO_9:=n0_;have BK307:=n1_;have HB:=n2_;clear n0_ n1_ n2_;(try clear hb);(try clear hb2);(try clear hk);(try clear hi);have hcz82_0:w81.cell? ⟨gb307,0,none⟩=some (.int .i64 a2_0):=(qi_ BK307.out 0).trans rfl;have hcz82_1:w81.cell? ⟨gb307,1,none⟩=some (.int .i64 a2_1):=(qi_ BK307.out 1).trans rfl;have hfz82_0:=qh_ BK307.out 0;have hfz82_1:=qh_ BK307.out 1)|((with_reducible refine qv2_ (b:=.append) (xs:=#[.tmp 63,.tmp 67]) rfl ?_);at_builtin;refine Kd.R_append k79 (w0:=w) w.heap.size rfl (.tmp 63) (.tmp 67) 24 79 (.agg #[(.string ⟨#[]⟩),(.int .i64 0),(.int .i64 0)]) 32 rfl Try.underlying24 info79 rfl (by decide) (by omega) v318 y317 (⟨a1,(⟨a2_0,a2_1⟩:S77)⟩:S79) [.string a1,.int .i64 a2_0,.int .i64 a2_1] (fun _=>True) (fun _=>False) rfl rfl ?aP (fun _ hk=>hk.elim) ?aF ?aO ?aB ?aS ?aL ?_;(case aP=>exact k79_mkM _ _ _ (⟨a1,(⟨a2_0,a2_1⟩:S77)⟩:S79));(case aB=>exact (by repeat (first|(with_reducible first|exact HB.out|apply qb_|apply qa_|apply qc_|refine qf_ ?_ GE307.out)|exact HB.out)));(case aF=>exact (fun _ _=>trivial));(case aO=>exact (by (with_reducible repeat (first|apply Kd.qq_|apply Kd.qr_|apply Kd.R_drew));exact HO_9.out));(case aS=>exact (qk_ (by repeat (first|(with_reducible first|exact HB.out|apply qb_|apply qa_|apply qc_|refine qf_ ?_ GE307.out)|exact HB.out))));(case aL=>have:=LMc76.out;omega);intro v353 w83 ho hb hg hat;rw [← Ny352.out] at ho;have n0_:=aK (qc3_ (g:=gb307) (o:=.cells #[.int .i64 a2_0,.int .i64 a2_1] 77 (0,0)) (by (with_reducible repeat (first|refine qe_ ?_ _|refine qg_ ?_|refine qd_ ?_ _));exact BK307.out) hg (Kd.R_ne HO_9.out BK307.out (by decide)));have n1_:=aK (hb);have n2_:=aK (ho);clear BK307;clear HB;clear HO_9;have BK307:=n0_;have HB:=n1_;have HO354:=n2_;clear n0_ n1_ n2_;clear ho hb hg hat;have q84:(x8_3:Int)≤((l0.length:Int):Int):=of_decide_eq_true (by first|(with_reducible assumption)|assumption);obtain ⟨i084,hi084,_,hsz84,_⟩:=info_parts info79;have hroom84:l0.length≤c0:=HC0.out;have hC84:Kd.C k79 _ A0 l0.length l0:=HR0.out;have q084:(0:Int)≤(x8_3:Int):=of_decide_eq_true (by first|(with_reducible assumption)|assumption);have hcut84:=cut_from (P:=Try.prog) 24 79 .i64 Try.underlying24 hi084 3 hsz84 A0 l0.length c0 x8_3 q084 q84;have hr84:=Kd.C_drop (m:=(x8_3:Int).toNat) (c:=c0) hC84 (by omega) hroom84;obtain ⟨A84,hA84⟩:∃ A1,A1=(if c0=(x8_3:Int).toNat then A0 else (A0:Option Addr).map (·.add ((x8_3:Int).toNat * 3))):=⟨_,rfl⟩;obtain ⟨c84,hc84⟩:∃ c1,c1=c0 - (x8_3:Int).toNat:=⟨_,rfl⟩;have hy84:y355.length=l0.length - (x8_3:Int).toNat:=(by rw [Ny355.out,List.length_drop] <;> omega);rw [show (l0).drop (x8_3:Int).toNat=y355 from Ny355.out.symm] at hr84;replace hr84:Kd.C k79 _ A84 y355.length y355:=(by rw [hA84];exact hr84);rw [← hy84,← hA84,← hc84] at hcut84;have HR358:=aK hr84;have HC358:=aK (show y355.length≤c84 from by rw [hy84,hc84];exact Nat.sub_le_sub_right hroom84 _);clear hr84 hC84 hroom84 hi084 hsz84 hc84;have KY84:=aK hy84;have KA84:=aK hA84;clear hy84 hA84;replace q84:=eq_true q84)|((with_reducible refine qv2_ (b:=.append) (xs:=#[.tmp 69,.tmp 72]) rfl ?_);at_builtin;refine Kd.qd3_ k79 (w0:=w) w.heap.size rfl (.tmp 69) (.tmp 72) 24 79 (.agg #[(.string ⟨#[]⟩),(.int .i64 0),(.int .i64 0)]) 32 rfl Try.underlying24 info79 rfl (by decide) (by omega) v353 y352 y355 _ _ _ (fun _=>True) (fun _=>False) rfl rfl ?aO ?aR (fun _ _ h=>h) (fun _ h=>h.elim) ?aF ?aB ?aS ?aL ?_;(case aR=>repeat (first|exact (Kd.qn2_ HR358.out HB.out)|(with_reducible refine Kd.qi2_ ?_ _)|(with_reducible refine Kd.qh2_ ?_ _)|(with_reducible refine Kd.C_drew ?_)));(case aB=>exact (by repeat (first|(with_reducible first|exact HB.out|apply qb_|apply qa_|apply qc_|refine qf_ ?_ GE307.out)|exact HB.out)));(case aF=>exact (fun _ _=>trivial));(case aO=>exact (by (with_reducible repeat (first|apply Kd.qq_|apply Kd.qr_|apply Kd.R_drew));exact HO354.out));(case aS=>exact (qk_ (by repeat (first|(with_reducible first|exact HB.out|apply qb_|apply qa_|apply qc_|refine qf_ ?_ GE307.out)|exact HB.out))));(case aL=>have:=LMc79.out;omega);intro v360 w85 ho hb hg hat;rw [← Ny359.out] at ho;have n0_:=aK (qc3_ (g:=gb307) (o:=.cells #[.int .i64 a2_0,.int .i64 a2_1] 77 (0,0)) (by (with_reducible repeat (first|refine qe_ ?_ _|refine qg_ ?_|refine qd_ ?_ _));exact BK307.out) hg (Kd.R_ne HO354.out BK307.out (by decide)));have n1_:=aK (hb);have n2_:=aK (ho);clear BK307;clear HB;clear HO354;have BK307:=n0_;have HB:=n1_;have HO361:=n2_;clear n0_ n1_ n2_;clear ho hb hg hat))
              go_ret2
              exact ⟨_,by first|rfl|(simp [qn_,qo_] <;> rfl)|(simp [*,qn_,qo_] <;> rfl),by (with_reducible repeat (first|apply Kd.qq_|apply Kd.qr_|apply Kd.R_drew));exact HO361.out,by repeat (first|(with_reducible first|exact HB.out|apply qb_|apply qa_|apply qc_|refine qf_ ?_ GE307.out)|exact HB.out)⟩
             ·rw [if_neg c79] at H
              exact absurd H (by simp)
            ·rw [if_neg c78] at H
             exact absurd H (by simp)
           ·rw [if_neg c77] at H
            exact absurd H (by simp)
          ·rw [if_neg c76] at H
           exact absurd H (by simp)
     ·rw [if_neg c12] at H
      exact absurd H (by simp)
    ·rw [if_neg c11] at H
     exact absurd H (by simp)
   ·rw [if_neg c10] at H
    exact absurd H (by simp)
end Go.Proofs.Ytaiefdhenikiiaa.Base
namespace Go.Proofs.Ytaiefdhenikiiaa.Base
open Go.RowKit Go.Proofs.YtaiefdhenikiiaaW.PrintWords Go.Proofs.YtaiefdhenikiiaaW.PrintLast Go.Proofs.YtaiefdhenikiiaaW.PrintMore
attribute [local go_sem] max2_int qv1_ max_two min_two max_three min_three max_four min_four Go.Proofs.YtaiefdhenikiiaaZ.qe1_   -- for this text's walks alone
set_option linter.unusedVariables false
set_option linter.unusedSimpArgs false
def qg3_.f (a0_0:Int) (a0_1:Int) (l0_2:List (S79)):Option (Int × Int × (List (S79))):=some (a0_0,a0_1,(([]:List (S79))))
set_option maxHeartbeats 8000000 in
set_option maxRecDepth 100000 in
theorem qg3_.calls (a0_0:Int) (a0_1:Int) (A0_2:Option Addr) (c0_2:Nat) (l0_2:List (S79)) (r1:Int) (r2:Int) (r3:List (S79)) (w:World) (hr0_2:Kd.C k79 w A0_2 l0_2.length l0_2) (hc0_2:l0_2.length≤c0_2) (h:qg3_.f a0_0 a0_1 l0_2=some (r1,r2,r3)) :
  Calls Try.prog 108 #[.agg #[.int .i64 a0_0,.int .i64 a0_1,.slice A0_2 l0_2.length c0_2]] w fun e w'=>∃ v2_:Value,e=.returned (.agg #[.int .i64 r1,.int .i64 r2,v2_])∧Kd.R k79 79 w' w.heap.size (fun _=>True) v2_ r3∧Below w.heap.size w w':=by
 have hu38:=Try.underlying38
 have HR0_2:=aK hr0_2
 have HC0_2:=aK hc0_2
 clear hr0_2 hc0_2
 have HB:=aK (Below.refl w.heap.size w)
 have H:(some (a0_0,a0_1,(([]:List (S79)))))=some (r1,r2,r3):=h
 clear h
 obtain ⟨y264,hy264⟩:∃ y_:List (S79),y_=(([]:List (S79))):=⟨_,rfl⟩
 replace H:(some (a0_0,a0_1,y264))=some (r1,r2,r3):=by first|(rw [hy264];with_reducible exact H)|(have H2_:=(Option.bind_some _ _).symm.trans H;rw [hy264];with_reducible exact H2_)|(have H2_:=(Option.bind_some _ _).symm.trans H;with_reducible exact H2_)|with_reducible exact H|(rw [hy264];exact H)|exact H
 have Ny264:=aK hy264
 clear hy264
 simp only [Option.some.injEq,Prod.mk.injEq] at H
 obtain ⟨rfl,rfl,rfl⟩:=H
 go_enter Try.func108,Try.ntmps108
 go_wp2_with (first|((with_reducible refine qz_ (N:=1) rfl ?_);refine qv_ ?hg (N:=1) ?hd (cs:=#[.int .i64 a0_0,.int .i64 a0_1,.slice A0_2 l0_2.length c0_2]) (t:=38) ?hr ?_;(case hd=>rfl);(case hg=>rfl);(case hr=>first|(go_simp;done)|(go_simp;rfl));intro gb262 hg w2 hbox hb;have n0_:=aK (qm_ (by repeat (first|(with_reducible first|exact HB.out|apply qb_|apply qa_|apply qc_)|exact HB.out)) hb);have n1_:=aK (hbox);have n2_:=aK ((by rw [hg];exact (qk_ (by repeat (first|(with_reducible first|exact HB.out|apply qb_|apply qa_|apply qc_)|exact HB.out))):w.heap.size≤gb262));have n3_:=aK ((by rw [hg];exact (qk_ (by repeat (first|(with_reducible first|exact HB.out|apply qb_|apply qa_|apply qc_)|exact HB.out))):w.heap.size≤gb262));clear HB;have HB:=n0_;have BK262:=n1_;have GW262:=n2_;have GE262:=n3_;clear n0_ n1_ n2_ n3_;clear hb hbox hg)|((with_reducible refine qz_ (N:=2) rfl ?_);refine qv_ ?hg (N:=2) ?hd (cs:=#[.int .i64 0,.int .i64 0,.slice none 0 0]) (t:=38) ?hr ?_;(case hd=>rfl);(case hg=>rfl);(case hr=>first|(go_simp;done)|(go_simp;rfl));intro gb263 hg w3 hbox hb;have n0_:=aK (ql_ (g:=gb262) (o:=.cells #[.int .i64 a0_0,.int .i64 a0_1,.slice A0_2 l0_2.length c0_2] 38 (0,0)) (by (with_reducible repeat (first|refine qe_ ?_ _|refine qg_ ?_|refine qd_ ?_ _));exact BK262.out) hb);have n1_:=aK (qm_ (by repeat (first|(with_reducible first|exact HB.out|apply qb_|apply qa_|apply qc_|refine qf_ ?_ GE262.out)|exact HB.out)) hb);have n2_:=aK (hbox);have n3_:=aK ((by rw [hg];exact (qk_ (by repeat (first|(with_reducible first|exact HB.out|apply qb_|apply qa_|apply qc_|refine qf_ ?_ GE262.out)|exact HB.out))):w.heap.size≤gb263));have n4_:=aK ((by rw [hg];exact (qk_ (by repeat (first|(with_reducible first|exact HB.out|apply qb_|apply qa_|apply qc_|refine qf_ ?_ GE262.out)|exact HB.out))):w.heap.size≤gb263));have n5_:=aK ((by rw [hg];exact Nat.ne_of_lt (blk_lt (g:=gb262) (o:=.cells #[.int .i64 a0_0,.int .i64 a0_1,.slice A0_2 l0_2.length c0_2] 38 (0,0)) (by (with_reducible repeat (first|refine qe_ ?_ _|refine qg_ ?_|refine qd_ ?_ _));exact BK262.out)):gb262 ≠ gb263));have n6_:=aK ((by rw [hg];exact Nat.ne_of_gt (blk_lt (g:=gb262) (o:=.cells #[.int .i64 a0_0,.int .i64 a0_1,.slice A0_2 l0_2.length c0_2] 38 (0,0)) (by (with_reducible repeat (first|refine qe_ ?_ _|refine qg_ ?_|refine qd_ ?_ _));exact BK262.out)):gb263 ≠ gb262));clear BK262;clear HB;have BK262:=n0_;have HB:=n1_;have BK263:=n2_;have GW263:=n3_;have GE263:=n4_;have NB262_263:=n5_;have NB263_262:=n6_;clear n0_ n1_ n2_ n3_ n4_ n5_ n6_;clear hb hbox hg;have hnb4:=NB262_263.out;have hnc4:=NB263_262.out;have hcz5_0:w3.cell? ⟨gb262,0,none⟩=some (.int .i64 a0_0):=(qi_ BK262.out 0).trans rfl;have hcz5_1:w3.cell? ⟨gb262,1,none⟩=some (.int .i64 a0_1):=(qi_ BK262.out 1).trans rfl;have hcz5_2:w3.cell? ⟨gb262,2,none⟩=some (.slice A0_2 l0_2.length c0_2):=(qi_ BK262.out 2).trans rfl;have hfz5_0:=qh_ BK262.out 0;have hfz5_1:=qh_ BK262.out 1;have hfz5_2:=qh_ BK262.out 2)|((with_reducible refine qz_ (N:=7) rfl ?_);refine Kd.R_lit k79 _ 79 ?hg (N:=7) ?hd (xs:=([]:List (S79))) (inner:=[]) (ok:=fun _=>True) (okp:=fun _=>True) ?hr ?hp (fun _ hk=>hk) trivial (Below.refl _ _) (Nat.le_refl _) (by simp) ?_;(case hd=>rfl);(case hg=>rfl);(case hr=>first|(go_simp;done)|(go_simp;rfl));(case hp=>exact (Reps.none _ _));intro v265 w6 ho7 hb hg_ hnew_;clear hg_ hnew_;(first|rw [← Ny264.out] at ho7|(simp only [Int.reduceToNat] at ho7;rw [← Ny264.out] at ho7));have n0_:=aK (Kd.qt2_ ho7 (qk_ (by repeat (first|(with_reducible first|exact HB.out|apply qb_|apply qa_|apply qc_|refine qf_ ?_ GE262.out|refine qf_ ?_ GE263.out)|exact HB.out))));have n1_:=aK (ql_ (g:=gb262) (o:=.cells #[.int .i64 a0_0,.int .i64 a0_1,.slice A0_2 l0_2.length c0_2] 38 (0,0)) (by (with_reducible repeat (first|refine qe_ ?_ _|refine qg_ ?_|refine qd_ ?_ _));exact BK262.out) hb);have n2_:=aK (ql_ (g:=gb263) (o:=.cells #[.int .i64 0,.int .i64 0,.slice none 0 0] 38 (0,0)) (by (with_reducible repeat (first|refine qe_ ?_ _|refine qg_ ?_|refine qd_ ?_ _));exact BK263.out) hb);have n3_:=aK (qm_ (by repeat (first|(with_reducible first|exact HB.out|apply qb_|apply qa_|apply qc_|refine qf_ ?_ GE262.out|refine qf_ ?_ GE263.out)|exact HB.out)) hb);clear BK262;clear BK263;clear HB;have HO266:=n0_;have BK262:=n1_;have BK263:=n2_;have HB:=n3_;clear n0_ n1_ n2_ n3_;clear hb ho7;obtain ⟨Ao8,co8,eo8⟩:=Kd.qq2_ HO266.out;subst eo8;have hcz9_0:w6.cell? ⟨gb263,0,none⟩=some (.int .i64 0):=(qi_ BK263.out 0).trans rfl;have hcz9_1:w6.cell? ⟨gb263,1,none⟩=some (.int .i64 0):=(qi_ BK263.out 1).trans rfl;have hcz9_2:w6.cell? ⟨gb263,2,none⟩=some (.slice none 0 0):=(qi_ BK263.out 2).trans rfl;have hfz9_0:=qh_ BK263.out 0;have hfz9_1:=qh_ BK263.out 1;have hfz9_2:=qh_ BK263.out 2))
 refine bodyPost_ret (results_cell_row rfl _ _ gb263 38 #[.int .i64 a0_0,.int .i64 a0_1,.slice Ao8 y264.length co8] (0,0) _ rfl (by (with_reducible repeat (first|refine qe_ ?_ _|refine qg_ ?_|refine qd_ ?_ _));refine qy_ (cs:=#[.int .i64 a0_0,.int .i64 a0_1,.slice none 0 0]) ?_ 2 _ rfl;(with_reducible repeat (first|refine qe_ ?_ _|refine qg_ ?_|refine qd_ ?_ _));refine qy_ (cs:=#[.int .i64 a0_0,.int .i64 0,.slice none 0 0]) ?_ 1 _ rfl;(with_reducible repeat (first|refine qe_ ?_ _|refine qg_ ?_|refine qd_ ?_ _));refine qy_ (cs:=#[.int .i64 0,.int .i64 0,.slice none 0 0]) ?_ 0 _ rfl;(with_reducible repeat (first|refine qe_ ?_ _|refine qg_ ?_|refine qd_ ?_ _));exact BK263.out) Try.underlying38 rfl (by kernel_rfl)) rfl ?_
 exact ⟨_,by first|rfl|(simp [qn_,qo_] <;> rfl)|(simp [*,qn_,qo_] <;> rfl),by (with_reducible repeat (first|apply Kd.qq_|apply Kd.qr_|apply Kd.R_drew));exact Kd.R_mono (Kd.R_far (p:=⟨gb263,2,none⟩) (Kd.R_far (p:=⟨gb263,1,none⟩) (Kd.R_far (p:=⟨gb263,0,none⟩) (Kd.qg2_ HO266.out BK263.out (by decide)) (fun _ hk=>hk.2) (.int .i64 a0_0)) (fun _ hk=>hk.2) (.int .i64 a0_1)) (fun _ hk=>hk.2) (.slice Ao8 y264.length co8)) (fun _ hk=>trivial),by repeat (first|(with_reducible first|exact HB.out|apply qb_|apply qa_|apply qc_|refine qf_ ?_ GE262.out|refine qf_ ?_ GE263.out)|exact HB.out)⟩
end Go.Proofs.Ytaiefdhenikiiaa.Base
namespace Go.Proofs.Ytaiefdhenikiiaa.Base
open Go.RowKit Go.Proofs.YtaiefdhenikiiaaW.PrintWords Go.Proofs.YtaiefdhenikiiaaW.PrintLast Go.Proofs.YtaiefdhenikiiaaW.PrintMore
attribute [local go_sem] max2_int qv1_ max_two min_two max_three min_three max_four min_four Go.Proofs.YtaiefdhenikiiaaZ.qe1_   -- for this text's walks alone
set_option linter.unusedVariables false
set_option linter.unusedSimpArgs false
mutual
def qp_.l0:Nat→ByteArray→Bool→Int→Int→Int→List (S79)→Int→Int→List (S79)→Option (Int × Int × (List (S79)))
 | 0,_,_,_,_,_,_,_,_,_=>none
 | k+1,x1,x2,x8,x336000,x336001,x336002,x343000,x343001,x343002=>if x8 < (x336002.length:Int) then (if 0≤x8 then (if (wrap64 ((((rd_T79 x336002 x8).f0).size:Int) - (x1.size:Int))) ≥ 0 then (if x2=true then (qp_.j1 k x1 x2 x8 ((rd_T79 x336002 x8).f0) (wrap64 ((((rd_T79 x336002 x8).f0).size:Int) - (x1.size:Int))) false x336000 x336001 x336002 x343000 x343001 x343002) else (if 0≤(x1.size:Int) then (if (x1.size:Int)≤(((rd_T79 x336002 x8).f0).size:Int) then (qp_.j1 k x1 x2 x8 ((rd_T79 x336002 x8).f0) (wrap64 ((((rd_T79 x336002 x8).f0).size:Int) - (x1.size:Int))) ((((rd_T79 x336002 x8).f0).extract 0 ((x1.size:Int):Int).toNat).toList == x1.toList) x336000 x336001 x336002 x343000 x343001 x343002) else (none)) else (none))) else (qp_.j1 k x1 x2 x8 ((rd_T79 x336002 x8).f0) (wrap64 ((((rd_T79 x336002 x8).f0).size:Int) - (x1.size:Int))) false x336000 x336001 x336002 x343000 x343001 x343002)) else (none)) else (some (x343000,x343001,x343002))
def qp_.j1:Nat→ByteArray→Bool→Int→ByteArray→Int→Bool→Int→Int→List (S79)→Int→Int→List (S79)→Option (Int × Int × (List (S79)))
 | 0,_,_,_,_,_,_,_,_,_,_,_,_=>none
 | k+1,x1,x2,x8,x9,x10,x35,x336000,x336001,x336002,x343000,x343001,x343002=>if x35=true then (if 0≤(x1.size:Int) then (if (x1.size:Int)≤(x9.size:Int) then (if 0≤x8 then (if x8 < (x336002.length:Int) then ((qs_.f k x343002 (x9.extract ((x1.size:Int):Int).toNat x9.size) ((rd_T79 x336002 x8).f1.f0) ((rd_T79 x336002 x8).f1.f1)).bind fun bt345=>(qp_.l0 k x1 x2 (wrap64 (x8+1)) x336000 x336001 x336002 x343000 x343001 bt345.1)) else (none)) else (none)) else (none)) else (none)) else (if x10 ≥ 0 then (if x2=true then (if 0≤x10 then (if x10≤(x9.size:Int) then (if (x9.extract (x10:Int).toNat x9.size).toList=x1.toList then (if 0≤x8 then (if x8 < (x336002.length:Int) then ((qs_.f k x343002 (x9.extract 0 (x10:Int).toNat) ((rd_T79 x336002 x8).f1.f0) ((rd_T79 x336002 x8).f1.f1)).bind fun bt350=>(qp_.l0 k x1 x2 (wrap64 (x8+1)) x336000 x336001 x336002 x343000 x343001 bt350.1)) else (none)) else (none)) else (qp_.l0 k x1 x2 (wrap64 (x8+1)) x336000 x336001 x336002 x343000 x343001 x343002)) else (none)) else (none)) else (qp_.l0 k x1 x2 (wrap64 (x8+1)) x336000 x336001 x336002 x343000 x343001 x343002)) else (qp_.l0 k x1 x2 (wrap64 (x8+1)) x336000 x336001 x336002 x343000 x343001 x343002))
end
def qp_.f (k:Nat) (a0_0:Int) (a0_1:Int) (l0_2:List (S79)) (a1:ByteArray) (a2:Bool):Option (Int × Int × (List (S79))):=(qg3_.f a0_0 a0_1 l0_2).bind fun bt337=>(qp_.l0 k a1 a2 0 a0_0 a0_1 l0_2 bt337.1 bt337.2.1 bt337.2.2)
theorem qp_.mono_l:∀ k,(∀ y0 y1 y2 y3 y4 y5 y6 y7 y8,LeO (qp_.l0 k y0 y1 y2 y3 y4 y5 y6 y7 y8) (qp_.l0 (k+1) y0 y1 y2 y3 y4 y5 y6 y7 y8))∧(∀ y0 y1 y2 y3 y4 y5 y6 y7 y8 y9 y10 y11,LeO (qp_.j1 k y0 y1 y2 y3 y4 y5 y6 y7 y8 y9 y10 y11) (qp_.j1 (k+1) y0 y1 y2 y3 y4 y5 y6 y7 y8 y9 y10 y11))
 | 0=>⟨fun _ _ _ _ _ _ _ _ _ r h=>by simp [qp_.l0] at h,fun _ _ _ _ _ _ _ _ _ _ _ _ r h=>by simp [qp_.j1] at h⟩
 | k+1=>by
  obtain ⟨ih0,ih1⟩:=qp_.mono_l k
  refine ⟨?_,?_⟩
  ·intro y0 y1 y2 y3 y4 y5 y6 y7 y8
   unfold qp_.l0
   repeat' first
   | (with_reducible exact ih0 _ _ _ _ _ _ _ _ _)
   | (with_reducible exact ih1 _ _ _ _ _ _ _ _ _ _ _ _)
   | (with_reducible exact qs_.mono _ _ _ _ _)
   | (with_reducible exact LeO.refl _)
   | (with_reducible exact LeO.none _)
   | (with_reducible refine LeO.ite ?_ ?_)
   | (with_reducible refine LeO.bind ?_ (fun _=>?_))
   | exact ih0 _ _ _ _ _ _ _ _ _
   | exact ih1 _ _ _ _ _ _ _ _ _ _ _ _
   | exact qs_.mono _ _ _ _ _
   | exact LeO.none _
   | refine LeO.ite ?_ ?_
   | refine LeO.bind ?_ (fun _=>?_)
  ·intro y0 y1 y2 y3 y4 y5 y6 y7 y8 y9 y10 y11
   unfold qp_.j1
   repeat' first
   | (with_reducible exact ih0 _ _ _ _ _ _ _ _ _)
   | (with_reducible exact ih1 _ _ _ _ _ _ _ _ _ _ _ _)
   | (with_reducible exact qs_.mono _ _ _ _ _)
   | (with_reducible exact LeO.refl _)
   | (with_reducible exact LeO.none _)
   | (with_reducible refine LeO.ite ?_ ?_)
   | (with_reducible refine LeO.bind ?_ (fun _=>?_))
   | exact ih0 _ _ _ _ _ _ _ _ _
   | exact ih1 _ _ _ _ _ _ _ _ _ _ _ _
   | exact qs_.mono _ _ _ _ _
   | exact LeO.none _
   | refine LeO.ite ?_ ?_
   | refine LeO.bind ?_ (fun _=>?_)
theorem qp_.mono:∀ a0 a1 a2 a3 a4 k,LeO (qp_.f k a0 a1 a2 a3 a4) (qp_.f (k+1) a0 a1 a2 a3 a4):=by
 intro a0 a1 a2 a3 a4 k
 obtain ⟨ih0,ih1⟩:=qp_.mono_l k
 unfold qp_.f
 repeat' first
   | (with_reducible exact ih0 _ _ _ _ _ _ _ _ _)
   | (with_reducible exact ih1 _ _ _ _ _ _ _ _ _ _ _ _)
   | (with_reducible exact qs_.mono _ _ _ _ _)
   | (with_reducible exact LeO.refl _)
   | (with_reducible exact LeO.none _)
   | (with_reducible refine LeO.ite ?_ ?_)
   | (with_reducible refine LeO.bind ?_ (fun _=>?_))
   | exact ih0 _ _ _ _ _ _ _ _ _
   | exact ih1 _ _ _ _ _ _ _ _ _ _ _ _
   | exact qs_.mono _ _ _ _ _
   | exact LeO.none _
   | refine LeO.ite ?_ ?_
   | refine LeO.bind ?_ (fun _=>?_)
def qp_.T8:Bool × List (List Nat × List Nat):=(true,[([],[]),([0],[0]),([],[]),([],[]),([3],[3]),([2,4],[2,4]),([],[]),([6],[6]),([],[]),([7,8],[7,8]),([9],[9]),([10],[10]),([1,5,11],[1,5,11]),([12],[12]),([13],[13]),([13],[13]),([14,12,0,1,2,3,4,5,6,7,8,9,10,11,12,13,14],[14]),([15,16,0,1,2,3,4,5,6,7,8,9,10,11,12,13,14,15,16],[15])])
def qp_.B8:List Nat:=[0,1,0,0,8,28,0,64,0,448,960,1984,4095,8191,16383,16383,32767,131071]
theorem qp_.tab8:rtab .any (opsOf Try.f86 8)=qp_.T8:=by kernel_rfl
theorem qp_.bits8:waitsOk qp_.T8.2 qp_.B8=true:=by kernel_rfl
def qp_.T11:Bool × List (List Nat × List Nat):=(true,[([],[]),([0],[0]),([],[]),([],[]),([2,3],[2,3]),([],[]),([5],[5]),([],[]),([6,7],[6,7]),([8],[8]),([9],[9]),([1,4,10],[1,4,10]),([11],[11]),([12],[12]),([12],[12]),([13,11,0,1,2,3,4,5,6,7,8,9,10,11,12,13],[13]),([14,15,0,1,2,3,4,5,6,7,8,9,10,11,12,13,14,15],[14])])
def qp_.B11:List Nat:=[0,1,0,0,12,0,32,0,224,480,992,2047,4095,8191,8191,16383,65535]
theorem qp_.tab11:rtab .any (opsOf Try.f86 11)=qp_.T11:=by kernel_rfl
theorem qp_.bits11:waitsOk qp_.T11.2 qp_.B11=true:=by kernel_rfl
set_option maxHeartbeats 8000000 in
set_option maxRecDepth 100000 in
theorem qp_.calls (k:Nat) (a0_0:Int) (a0_1:Int) (A0_2:Option Addr) (c0_2:Nat) (l0_2:List (S79)) (a1:ByteArray) (a2:Bool) (r1:Int) (r2:Int) (r3:List (S79)) (w:World) (hr0_2:Kd.C k79 w A0_2 l0_2.length l0_2) (hc0_2:l0_2.length≤c0_2) (h:qp_.f k a0_0 a0_1 l0_2 a1 a2=some (r1,r2,r3)) :
  Calls Try.prog 86 #[.agg #[.int .i64 a0_0,.int .i64 a0_1,.slice A0_2 l0_2.length c0_2],.string a1,.bool a2] w fun e w'=>∃ v2_:Value,e=.returned (.agg #[.int .i64 r1,.int .i64 r2,v2_])∧Kd.R k79 79 w' w.heap.size (fun _=>True) v2_ r3∧Below w.heap.size w w':=by
 have hu38:=Try.underlying38
 have hu77:=Try.underlying77
 have HR0_2:=aK hr0_2
 have HC0_2:=aK hc0_2
 clear hr0_2 hc0_2
 have HB:=aK (Below.refl w.heap.size w)
 have H:((qg3_.f a0_0 a0_1 l0_2).bind fun bt337=>(qp_.l0 k a1 a2 0 a0_0 a0_1 l0_2 bt337.1 bt337.2.1 bt337.2.2))=some (r1,r2,r3):=h
 clear h
 replace H:=Option.bind_eq_some_iff.mp H
 obtain ⟨⟨t337,t338,t339⟩,A40,H⟩:=H
 replace H:(qp_.l0 k a1 a2 0 a0_0 a0_1 l0_2 t337 t338 t339)=some (r1,r2,r3):=H
 have A4:=aK A40
 clear A40
 have H':=aK H
 clear H
 go_enter Try.func86,Try.ntmps86
 go_wp2_with (first|((with_reducible refine qz_ (N:=3) rfl ?_);(try (refine qh3_ (by rfl) ?_;dsimp only));refine qv_ ?hg (N:=3) ?hd (cs:=#[.int .i64 a0_0,.int .i64 a0_1,.slice A0_2 l0_2.length c0_2]) (t:=38) ?hr ?_;(case hd=>rfl);(case hg=>rfl);(case hr=>first|(go_simp;done)|(go_simp;rfl));intro gb335 hg w5 hbox hb;have n0_:=aK (qm_ (by repeat (first|(with_reducible first|exact HB.out|apply qb_|apply qa_|apply qc_)|exact HB.out)) hb);have n1_:=aK (hbox);have n2_:=aK ((by rw [hg];exact (qk_ (by repeat (first|(with_reducible first|exact HB.out|apply qb_|apply qa_|apply qc_)|exact HB.out))):w.heap.size≤gb335));have n3_:=aK ((by rw [hg];exact (qk_ (by repeat (first|(with_reducible first|exact HB.out|apply qb_|apply qa_|apply qc_)|exact HB.out))):w.heap.size≤gb335));clear HB;have HB:=n0_;have BK335:=n1_;have GW335:=n2_;have GE335:=n3_;clear n0_ n1_ n2_ n3_;clear hb hbox hg)|((with_reducible refine qz_ (N:=6) rfl ?_);(try (refine qh3_ (by rfl) ?_;dsimp only));refine qv_ ?hg (N:=6) ?hd (cs:=#[.int .i64 0,.int .i64 0,.slice none 0 0]) (t:=38) ?hr ?_;(case hd=>rfl);(case hg=>rfl);(case hr=>first|(go_simp;done)|(go_simp;rfl));intro gb336 hg w6 hbox hb;have n0_:=aK (ql_ (g:=gb335) (o:=.cells #[.int .i64 a0_0,.int .i64 a0_1,.slice A0_2 l0_2.length c0_2] 38 (0,0)) (by (with_reducible repeat (first|refine qe_ ?_ _|refine qg_ ?_|refine qd_ ?_ _));exact BK335.out) hb);have n1_:=aK (qm_ (by repeat (first|(with_reducible first|exact HB.out|apply qb_|apply qa_|apply qc_|refine qf_ ?_ GE335.out)|exact HB.out)) hb);have n2_:=aK (hbox);have n3_:=aK ((by rw [hg];exact (qk_ (by repeat (first|(with_reducible first|exact HB.out|apply qb_|apply qa_|apply qc_|refine qf_ ?_ GE335.out)|exact HB.out))):w.heap.size≤gb336));have n4_:=aK ((by rw [hg];exact (qk_ (by repeat (first|(with_reducible first|exact HB.out|apply qb_|apply qa_|apply qc_|refine qf_ ?_ GE335.out)|exact HB.out))):w.heap.size≤gb336));have n5_:=aK ((by rw [hg];exact Nat.ne_of_lt (blk_lt (g:=gb335) (o:=.cells #[.int .i64 a0_0,.int .i64 a0_1,.slice A0_2 l0_2.length c0_2] 38 (0,0)) (by (with_reducible repeat (first|refine qe_ ?_ _|refine qg_ ?_|refine qd_ ?_ _));exact BK335.out)):gb335 ≠ gb336));have n6_:=aK ((by rw [hg];exact Nat.ne_of_gt (blk_lt (g:=gb335) (o:=.cells #[.int .i64 a0_0,.int .i64 a0_1,.slice A0_2 l0_2.length c0_2] 38 (0,0)) (by (with_reducible repeat (first|refine qe_ ?_ _|refine qg_ ?_|refine qd_ ?_ _));exact BK335.out)):gb336 ≠ gb335));clear BK335;clear HB;have BK335:=n0_;have HB:=n1_;have BK336:=n2_;have GW336:=n3_;have GE336:=n4_;have NB335_336:=n5_;have NB336_335:=n6_;clear n0_ n1_ n2_ n3_ n4_ n5_ n6_;clear hb hbox hg;have hnb7:=NB335_336.out;have hnc7:=NB336_335.out;have hcz8_0:w6.cell? ⟨gb335,0,none⟩=some (.int .i64 a0_0):=(qi_ BK335.out 0).trans rfl;have hcz8_1:w6.cell? ⟨gb335,1,none⟩=some (.int .i64 a0_1):=(qi_ BK335.out 1).trans rfl;have hcz8_2:w6.cell? ⟨gb335,2,none⟩=some (.slice A0_2 l0_2.length c0_2):=(qi_ BK335.out 2).trans rfl;have hfz8_0:=qh_ BK335.out 0;have hfz8_1:=qh_ BK335.out 1;have hfz8_2:=qh_ BK335.out 2)|((with_reducible refine qt_ (f:=108) rfl ?_);refine goesL_ (some 16) rfl rfl Try.func108 (by kernel_rfl) rfl #[.agg #[.int .i64 a0_0,.int .i64 a0_1,.slice A0_2 l0_2.length c0_2]] rfl (by (try simp only [List.map_toArray,List.map_cons,List.map_nil]);first|done|rfl|(simp only [List.length_drop,List.length_take];rfl)) ?_;(with_reducible refine (qg3_.calls a0_0 a0_1 _ _ l0_2 t337 t338 t339 _ ?side1 ?side2 A4.out).mono ?_);(case side1=>repeat (first|exact (Kd.qn2_ HR0_2.out HB.out)|(with_reducible refine Kd.qi2_ ?_ _)|(with_reducible refine Kd.qh2_ ?_ _)|(with_reducible refine Kd.C_drew ?_)));(case side2=>exact HC0_2.out);rintro e w9 ⟨v340,rfl,ho0,hb⟩;refine ⟨_,rfl,?_⟩;have n0_:=aK (Kd.qt2_ ho0 (qk_ (by repeat (first|(with_reducible first|exact HB.out|apply qb_|apply qa_|apply qc_|refine qf_ ?_ GE335.out|refine qf_ ?_ GE336.out)|exact HB.out))));have n1_:=aK (ql_ (g:=gb335) (o:=.cells #[.int .i64 a0_0,.int .i64 a0_1,.slice A0_2 l0_2.length c0_2] 38 (0,0)) (by (with_reducible repeat (first|refine qe_ ?_ _|refine qg_ ?_|refine qd_ ?_ _));exact BK335.out) hb);have n2_:=aK (ql_ (g:=gb336) (o:=.cells #[.int .i64 0,.int .i64 0,.slice none 0 0] 38 (0,0)) (by (with_reducible repeat (first|refine qe_ ?_ _|refine qg_ ?_|refine qd_ ?_ _));exact BK336.out) hb);have n3_:=aK (qm_ (by repeat (first|(with_reducible first|exact HB.out|apply qb_|apply qa_|apply qc_|refine qf_ ?_ GE335.out|refine qf_ ?_ GE336.out)|exact HB.out)) hb);clear BK335;clear BK336;clear HB;have HO341:=n0_;have BK335:=n1_;have BK336:=n2_;have HB:=n3_;clear n0_ n1_ n2_ n3_;(try clear hb);(try clear hb2);(try clear hk);(try clear hi);(try clear ho0))|((with_reducible refine qz_ (N:=7) rfl ?_);(try (refine qh3_ (by rfl) ?_;dsimp only));refine qv_ ?hg (N:=7) ?hd (cs:=#[.int .i64 0,.int .i64 0,.slice none 0 0]) (t:=38) ?hr ?_;(case hd=>rfl);(case hg=>rfl);(case hr=>first|(go_simp;done)|(go_simp;rfl));intro gb342 hg w10 hbox hb;have n0_:=aK (Kd.qj1_ (by (with_reducible repeat (first|apply Kd.qq_|apply Kd.qr_|apply Kd.R_drew));exact HO341.out) hb);have n1_:=aK (ql_ (g:=gb335) (o:=.cells #[.int .i64 a0_0,.int .i64 a0_1,.slice A0_2 l0_2.length c0_2] 38 (0,0)) (by (with_reducible repeat (first|refine qe_ ?_ _|refine qg_ ?_|refine qd_ ?_ _));exact BK335.out) hb);have n2_:=aK (ql_ (g:=gb336) (o:=.cells #[.int .i64 0,.int .i64 0,.slice none 0 0] 38 (0,0)) (by (with_reducible repeat (first|refine qe_ ?_ _|refine qg_ ?_|refine qd_ ?_ _));exact BK336.out) hb);have n3_:=aK (qm_ (by repeat (first|(with_reducible first|exact HB.out|apply qb_|apply qa_|apply qc_|refine qf_ ?_ GE335.out|refine qf_ ?_ GE336.out)|exact HB.out)) hb);have n4_:=aK (hbox);have n5_:=aK ((by rw [hg];exact (qk_ (by repeat (first|(with_reducible first|exact HB.out|apply qb_|apply qa_|apply qc_|refine qf_ ?_ GE335.out|refine qf_ ?_ GE336.out)|exact HB.out))):w.heap.size≤gb342));have n6_:=aK ((by rw [hg];exact (qk_ (by repeat (first|(with_reducible first|exact HB.out|apply qb_|apply qa_|apply qc_|refine qf_ ?_ GE335.out|refine qf_ ?_ GE336.out)|exact HB.out))):w.heap.size≤gb342));have n7_:=aK ((by rw [hg];exact Nat.ne_of_lt (blk_lt (g:=gb335) (o:=.cells #[.int .i64 a0_0,.int .i64 a0_1,.slice A0_2 l0_2.length c0_2] 38 (0,0)) (by (with_reducible repeat (first|refine qe_ ?_ _|refine qg_ ?_|refine qd_ ?_ _));exact BK335.out)):gb335 ≠ gb342));have n8_:=aK ((by rw [hg];exact Nat.ne_of_gt (blk_lt (g:=gb335) (o:=.cells #[.int .i64 a0_0,.int .i64 a0_1,.slice A0_2 l0_2.length c0_2] 38 (0,0)) (by (with_reducible repeat (first|refine qe_ ?_ _|refine qg_ ?_|refine qd_ ?_ _));exact BK335.out)):gb342 ≠ gb335));have n9_:=aK ((by rw [hg];exact Nat.ne_of_lt (blk_lt (g:=gb336) (o:=.cells #[.int .i64 0,.int .i64 0,.slice none 0 0] 38 (0,0)) (by (with_reducible repeat (first|refine qe_ ?_ _|refine qg_ ?_|refine qd_ ?_ _));exact BK336.out)):gb336 ≠ gb342));have n10_:=aK ((by rw [hg];exact Nat.ne_of_gt (blk_lt (g:=gb336) (o:=.cells #[.int .i64 0,.int .i64 0,.slice none 0 0] 38 (0,0)) (by (with_reducible repeat (first|refine qe_ ?_ _|refine qg_ ?_|refine qd_ ?_ _));exact BK336.out)):gb342 ≠ gb336));clear HO341;clear BK335;clear BK336;clear HB;have HO341:=n0_;have BK335:=n1_;have BK336:=n2_;have HB:=n3_;have BK342:=n4_;have GW342:=n5_;have GE342:=n6_;have NB335_342:=n7_;have NB342_335:=n8_;have NB336_342:=n9_;have NB342_336:=n10_;clear n0_ n1_ n2_ n3_ n4_ n5_ n6_ n7_ n8_ n9_ n10_;clear hb hbox hg;have hnb11:=NB342_335.out;have hnc11:=NB335_342.out;have hnb12:=NB342_336.out;have hnc12:=NB336_342.out;have hcz13_0:w10.cell? ⟨gb342,0,none⟩=some (.int .i64 0):=(qi_ BK342.out 0).trans rfl;have hcz13_1:w10.cell? ⟨gb342,1,none⟩=some (.int .i64 0):=(qi_ BK342.out 1).trans rfl;have hcz13_2:w10.cell? ⟨gb342,2,none⟩=some (.slice none 0 0):=(qi_ BK342.out 2).trans rfl;have hfz13_0:=qh_ BK342.out 0;have hfz13_1:=qh_ BK342.out 1;have hfz13_2:=qh_ BK342.out 2;obtain ⟨Ao14,co14,eo14⟩:=Kd.qq2_ HO341.out;subst eo14))
 go_loopg [8] k (fun kq v8 w'=>∃ (x8_1:Int) (x343002_1:List (S79)) (u343002:Value),v8=.int .i64 x8_1∧Aside0 (qp_.l0 kq a1 a2 x8_1 a0_0 a0_1 l0_2 t337 t338 x343002_1=some (r1,r2,r3))∧Aside0 (kq≤k)∧Aside0 (Kd.R k79 79 w' w.heap.size (fun _=>True) u343002 x343002_1)∧Aside0 (w'.heap[gb335]?=some (.cells #[.int .i64 a0_0,.int .i64 a0_1,(.slice A0_2 l0_2.length c0_2)] 38 (0,0)))∧Aside0 (w'.heap[gb336]?=some (.cells #[.int .i64 0,.int .i64 0,(.slice none 0 0)] 38 (0,0)))∧Aside0 (w'.heap[gb342]?=some (.cells #[.int .i64 t337,.int .i64 t338,u343002] 38 (0,0)))∧Aside0 (Below w.heap.size w w'))
 case atStart=>exact ⟨(0),(t339),(.slice Ao14 t339.length co14),(by first|rfl|(simp;done)|(simp [*];done)),H',⟨Nat.le_refl _⟩,⟨by (with_reducible repeat (first|apply Kd.qq_|apply Kd.qr_|apply Kd.R_drew));exact Kd.R_mono (Kd.R_far (p:=⟨gb342,2,none⟩) (Kd.R_far (p:=⟨gb342,1,none⟩) (Kd.R_far (p:=⟨gb342,0,none⟩) (Kd.qg2_ HO341.out BK342.out (by decide)) (fun _ hk=>hk.2) (.int .i64 t337)) (fun _ hk=>hk.2) (.int .i64 t338)) (fun _ hk=>hk.2) (.slice Ao14 t339.length co14)) (fun _ hk=>trivial)⟩,⟨by (with_reducible repeat (first|refine qe_ ?_ _|refine qg_ ?_|refine qd_ ?_ _));refine qa1_ ?_ NB335_342.out _;(with_reducible repeat (first|refine qe_ ?_ _|refine qg_ ?_|refine qd_ ?_ _));refine qa1_ ?_ NB335_342.out _;(with_reducible repeat (first|refine qe_ ?_ _|refine qg_ ?_|refine qd_ ?_ _));refine qa1_ ?_ NB335_342.out _;(with_reducible repeat (first|refine qe_ ?_ _|refine qg_ ?_|refine qd_ ?_ _));exact BK335.out⟩,⟨by (with_reducible repeat (first|refine qe_ ?_ _|refine qg_ ?_|refine qd_ ?_ _));refine qa1_ ?_ NB336_342.out _;(with_reducible repeat (first|refine qe_ ?_ _|refine qg_ ?_|refine qd_ ?_ _));refine qa1_ ?_ NB336_342.out _;(with_reducible repeat (first|refine qe_ ?_ _|refine qg_ ?_|refine qd_ ?_ _));refine qa1_ ?_ NB336_342.out _;(with_reducible repeat (first|refine qe_ ?_ _|refine qg_ ?_|refine qd_ ?_ _));exact BK336.out⟩,⟨by (with_reducible repeat (first|refine qe_ ?_ _|refine qg_ ?_|refine qd_ ?_ _));refine qy_ (cs:=#[.int .i64 t337,.int .i64 t338,.slice none 0 0]) ?_ 2 _ rfl;(with_reducible repeat (first|refine qe_ ?_ _|refine qg_ ?_|refine qd_ ?_ _));refine qy_ (cs:=#[.int .i64 t337,.int .i64 0,.slice none 0 0]) ?_ 1 _ rfl;(with_reducible repeat (first|refine qe_ ?_ _|refine qg_ ?_|refine qd_ ?_ _));refine qy_ (cs:=#[.int .i64 0,.int .i64 0,.slice none 0 0]) ?_ 0 _ rfl;(with_reducible repeat (first|refine qe_ ?_ _|refine qg_ ?_|refine qd_ ?_ _));exact BK342.out⟩,⟨by repeat (first|(with_reducible first|exact HB.out|apply qb_|apply qa_|apply qc_|refine qf_ ?_ GE335.out|refine qf_ ?_ GE336.out|refine qf_ ?_ GE342.out)|exact HB.out)⟩⟩
 case round =>
  clear H'
  try clear c1
  try clear p2
  try clear c7
  try clear c8
  try clear c10
  try clear c11
  try clear c12
  try clear hcz13_0
  try clear hcz13_1
  try clear hcz13_2
  try clear hcz8_0
  try clear hcz8_1
  try clear hcz8_2
  try clear hfz13_0
  try clear hfz13_1
  try clear hfz13_2
  try clear hfz8_0
  try clear hfz8_1
  try clear hfz8_2
  obtain ⟨x8_1,x343002_1,u343002,rfl,HA,HK1,HO_343002,BK335,BK336,BK342,HB⟩:=hrel
  cases gk with
  | zero=>exact absurd HA.out (by simp [qp_.l0])
  | succ k1 =>
   have H:=HA.out
   clear HA
   simp only [qp_.l0] at H
   by_cases c15:x8_1 < (l0_2.length:Int)
   ·rw [if_pos c15] at H
    have c15b0:decide (x8_1 < (l0_2.length:Int))=true:=decide_eq_true c15
    clear c15
    by_cases c16:0≤x8_1
    ·rw [if_pos c16] at H
     have c16b0:decide (0≤x8_1)=true:=decide_eq_true c16
     clear c16
     have HC17:=aK H
     clear H
     have hnb18:=NB335_336.out
     have hnc18:=NB336_335.out
     have hnb19:=NB335_342.out
     have hnc19:=NB342_335.out
     have hcz20_0:wr.cell? ⟨gb335,0,none⟩=some (.int .i64 a0_0):=(qi_ BK335.out 0).trans rfl
     have hcz20_1:wr.cell? ⟨gb335,1,none⟩=some (.int .i64 a0_1):=(qi_ BK335.out 1).trans rfl
     have hcz20_2:wr.cell? ⟨gb335,2,none⟩=some (.slice A0_2 l0_2.length c0_2):=(qi_ BK335.out 2).trans rfl
     have hfz20_0:=qh_ BK335.out 0
     have hfz20_1:=qh_ BK335.out 1
     have hfz20_2:=qh_ BK335.out 2
     have p343:0≤(x8_1:Int):=of_decide_eq_true (by first|(with_reducible assumption)|assumption)
     have q343:x8_1 < (l0_2.length:Int):=of_decide_eq_true (by first|(with_reducible assumption)|assumption)
     obtain ⟨ad343,e343,hx343_0,hx343_1,hx343_2⟩:=at_T79 HR0_2.out x8_1 p343 q343
     cases e343
     replace hx343_0:=(HB.out.cell (World.block_lt_of_cell? w _ hx343_0)).trans hx343_0
     replace hx343_1:=(HB.out.cell (World.block_lt_of_cell? w _ hx343_1)).trans hx343_1
     replace hx343_2:=(HB.out.cell (World.block_lt_of_cell? w _ hx343_2)).trans hx343_2
     replace p343:=eq_true p343
     replace q343:=eq_true q343
     go_upto_region 7 with (fail)
     go_cut [35] (fun v35 wc=>∃ (kq:Nat) (x35_16:Bool),v35=.bool x35_16∧Aside0 (qp_.j1 kq a1 a2 x8_1 ((rd_T79 l0_2 x8_1).f0) (wrap64 ((((rd_T79 l0_2 x8_1).f0).size:Int) - (a1.size:Int))) x35_16 a0_0 a0_1 l0_2 t337 t338 x343002_1=some (r1,r2,r3))∧Aside0 (kq≤k1)∧Aside0 (Kd.R k79 79 wc w.heap.size (fun _=>True) u343002 x343002_1)∧Aside0 (wc.heap[gb335]?=some (.cells #[.int .i64 a0_0,.int .i64 a0_1,(.slice (some ad343) l0_2.length c0_2)] 38 (0,0)))∧Aside0 (wc.heap[gb336]?=some (.cells #[.int .i64 0,.int .i64 0,(.slice none 0 0)] 38 (0,0)))∧Aside0 (wc.heap[gb342]?=some (.cells #[.int .i64 t337,.int .i64 t338,u343002] 38 (0,0)))∧Aside0 (Below w.heap.size w wc))
     case first =>
      have H:=HC17.out
      clear HC17
      by_cases c21:(wrap64 ((((rd_T79 l0_2 x8_1).f0).size:Int) - (a1.size:Int))) ≥ 0
      ·rw [if_pos c21] at H
       have c21b0:decide (0≤(wrap64 ((((rd_T79 l0_2 x8_1).f0).size:Int) - (a1.size:Int))))=true:=decide_eq_true c21
       clear c21
       (first|rw [c21b0]|(simp only [i64_w,i32_w];rw [c21b0])|skip)
       by_cases c22:a2=true
       ·subst c22
        have H1:(qp_.j1 k1 a1 true x8_1 ((rd_T79 l0_2 x8_1).f0) (wrap64 ((((rd_T79 l0_2 x8_1).f0).size:Int) - (a1.size:Int))) false a0_0 a0_1 l0_2 t337 t338 x343002_1)=some (r1,r2,r3):=by rw [if_pos rfl] at H;exact H
        clear H
        have H:=H1
        clear H1
        have H':=aK H
        clear H
        go_wp2
        go_meet
        case rel=>exact ⟨_,(false),(by first|rfl|(simp;done)|(simp [*];done)),H',⟨by have:=HK1.out;first|omega|exact Nat.le_refl _⟩,⟨by (with_reducible repeat (first|apply Kd.qq_|apply Kd.qr_|apply Kd.R_drew));exact HO_343002.out⟩,⟨by (with_reducible repeat (first|refine qe_ ?_ _|refine qg_ ?_|refine qd_ ?_ _));exact BK335.out⟩,⟨by (with_reducible repeat (first|refine qe_ ?_ _|refine qg_ ?_|refine qd_ ?_ _));exact BK336.out⟩,⟨by (with_reducible repeat (first|refine qe_ ?_ _|refine qg_ ?_|refine qd_ ?_ _));exact BK342.out⟩,⟨by repeat (first|(with_reducible first|exact HB.out|apply qb_|apply qa_|apply qc_|refine qf_ ?_ GE335.out|refine qf_ ?_ GE336.out|refine qf_ ?_ GE342.out)|exact HB.out)⟩⟩
       ·replace c22:=Bool.eq_false_iff.mpr c22
        subst c22
        have H1:(if 0≤(a1.size:Int) then (if (a1.size:Int)≤(((rd_T79 l0_2 x8_1).f0).size:Int) then (qp_.j1 k1 a1 false x8_1 ((rd_T79 l0_2 x8_1).f0) (wrap64 ((((rd_T79 l0_2 x8_1).f0).size:Int) - (a1.size:Int))) ((((rd_T79 l0_2 x8_1).f0).extract 0 ((a1.size:Int):Int).toNat).toList == a1.toList) a0_0 a0_1 l0_2 t337 t338 x343002_1) else (none)) else (none))=some (r1,r2,r3):=by rw [if_neg (show ¬ (false=true) by decide)] at H;exact H
        clear H
        have H:=H1
        clear H1
        by_cases c23:0≤(a1.size:Int)
        ·rw [if_pos c23] at H
         have c23b0:=eq_true c23
         have c23b1:decide (0≤(a1.size:Int))=true:=decide_eq_true c23
         clear c23
         by_cases c24:(a1.size:Int)≤(((rd_T79 l0_2 x8_1).f0).size:Int)
         ·rw [if_pos c24] at H
          have c24b0:=eq_true c24
          have c24b1:decide ((a1.size:Int)≤(((rd_T79 l0_2 x8_1).f0).size:Int))=true:=decide_eq_true c24
          clear c24
          have H':=aK H
          clear H
          go_wp2
          go_meet
          case rel=>exact ⟨_,(((((rd_T79 l0_2 x8_1).f0).extract 0 ((a1.size:Int):Int).toNat).toList == a1.toList)),(by first|rfl|(simp;done)|(simp [*];done)),H',⟨by have:=HK1.out;first|omega|exact Nat.le_refl _⟩,⟨by (with_reducible repeat (first|apply Kd.qq_|apply Kd.qr_|apply Kd.R_drew));exact HO_343002.out⟩,⟨by (with_reducible repeat (first|refine qe_ ?_ _|refine qg_ ?_|refine qd_ ?_ _));exact BK335.out⟩,⟨by (with_reducible repeat (first|refine qe_ ?_ _|refine qg_ ?_|refine qd_ ?_ _));exact BK336.out⟩,⟨by (with_reducible repeat (first|refine qe_ ?_ _|refine qg_ ?_|refine qd_ ?_ _));exact BK342.out⟩,⟨by repeat (first|(with_reducible first|exact HB.out|apply qb_|apply qa_|apply qc_|refine qf_ ?_ GE335.out|refine qf_ ?_ GE336.out|refine qf_ ?_ GE342.out)|exact HB.out)⟩⟩
         ·rw [if_neg c24] at H
          exact absurd H (by simp)
        ·rw [if_neg c23] at H
         exact absurd H (by simp)
      ·rw [if_neg c21] at H
       have c21b0:decide (0≤(wrap64 ((((rd_T79 l0_2 x8_1).f0).size:Int) - (a1.size:Int))))=false:=decide_eq_false c21
       clear c21
       (first|rw [c21b0]|(simp only [i64_w,i32_w];rw [c21b0])|skip)
       have H':=aK H
       clear H
       go_wp2
       go_meet
       case rel=>exact ⟨_,(false),(by first|rfl|(simp;done)|(simp [*];done)),H',⟨by have:=HK1.out;first|omega|exact Nat.le_refl _⟩,⟨by (with_reducible repeat (first|apply Kd.qq_|apply Kd.qr_|apply Kd.R_drew));exact HO_343002.out⟩,⟨by (with_reducible repeat (first|refine qe_ ?_ _|refine qg_ ?_|refine qd_ ?_ _));exact BK335.out⟩,⟨by (with_reducible repeat (first|refine qe_ ?_ _|refine qg_ ?_|refine qd_ ?_ _));exact BK336.out⟩,⟨by (with_reducible repeat (first|refine qe_ ?_ _|refine qg_ ?_|refine qd_ ?_ _));exact BK342.out⟩,⟨by repeat (first|(with_reducible first|exact HB.out|apply qb_|apply qa_|apply qc_|refine qf_ ?_ GE335.out|refine qf_ ?_ GE336.out|refine qf_ ?_ GE342.out)|exact HB.out)⟩⟩
     case rest =>
      clear HC17
      try clear c1
      try clear c2
      try clear p2
      try clear p3
      try clear q3
      try clear hx3
      try clear p6
      try clear c7
      try clear c8
      try clear c10
      try clear c11
      try clear c12
      try clear c15
      try clear c15b0
      try clear c16
      try clear c16b0
      try clear c18
      try clear c19
      try clear c21
      try clear c21b0
      try clear c22
      try clear c23
      try clear c23b0
      try clear c23b1
      try clear c24
      try clear c24b0
      try clear c24b1
      try clear hcz13_0
      try clear hcz13_1
      try clear hcz13_2
      try clear hcz20_0
      try clear hcz20_1
      try clear hcz20_2
      try clear hcz8_0
      try clear hcz8_1
      try clear hcz8_2
      try clear hfz13_0
      try clear hfz13_1
      try clear hfz13_2
      try clear hfz20_0
      try clear hfz20_1
      try clear hfz20_2
      try clear hfz8_0
      try clear hfz8_1
      try clear hfz8_2
      try clear hx343_0
      try clear hx343_1
      try clear hx343_2
      try clear p2
      try clear p343
      try clear q343
      obtain ⟨kq,x35_16,rfl,HA,HJ16,HO_343002,BK335,BK336,BK342,HB⟩:=hcut
      cases kq with
      | zero=>exact absurd HA.out (by simp [qp_.j1])
      | succ kj16 =>
       have H:=HA.out
       clear HA
       simp only [qp_.j1] at H
       by_cases c25:x35_16=true
       ·subst c25
        have H1:(if 0≤(a1.size:Int) then (if (a1.size:Int)≤(((rd_T79 l0_2 x8_1).f0).size:Int) then (if 0≤x8_1 then (if x8_1 < (l0_2.length:Int) then ((qs_.f kj16 x343002_1 (((rd_T79 l0_2 x8_1).f0).extract ((a1.size:Int):Int).toNat ((rd_T79 l0_2 x8_1).f0).size) ((rd_T79 l0_2 x8_1).f1.f0) ((rd_T79 l0_2 x8_1).f1.f1)).bind fun bt345=>(qp_.l0 kj16 a1 a2 (wrap64 (x8_1+1)) a0_0 a0_1 l0_2 t337 t338 bt345.1)) else (none)) else (none)) else (none)) else (none))=some (r1,r2,r3):=by rw [if_pos rfl] at H;exact H
        clear H
        have H:=H1
        clear H1
        by_cases c26:0≤(a1.size:Int)
        ·rw [if_pos c26] at H
         have c26b0:=eq_true c26
         have c26b1:decide (0≤(a1.size:Int))=true:=decide_eq_true c26
         clear c26
         by_cases c27:(a1.size:Int)≤(((rd_T79 l0_2 x8_1).f0).size:Int)
         ·rw [if_pos c27] at H
          have c27b0:=eq_true c27
          have c27b1:decide ((a1.size:Int)≤(((rd_T79 l0_2 x8_1).f0).size:Int))=true:=decide_eq_true c27
          clear c27
          by_cases c28:0≤x8_1
          ·rw [if_pos c28] at H
           have c28b0:decide (0≤x8_1)=true:=decide_eq_true c28
           clear c28
           by_cases c29:x8_1 < (l0_2.length:Int)
           ·rw [if_pos c29] at H
            have c29b0:decide (x8_1 < (l0_2.length:Int))=true:=decide_eq_true c29
            clear c29
            replace H:=Option.bind_eq_some_iff.mp H
            obtain ⟨⟨t345,t348⟩,A300,H⟩:=H
            replace H:(qp_.l0 kj16 a1 a2 (wrap64 (x8_1+1)) a0_0 a0_1 l0_2 t337 t338 t345)=some (r1,r2,r3):=H
            have A30:=aK A300
            clear A300
            have H':=aK H
            clear H
            try go_wp2
            have n0_:=aK (Kd.R_drew HO_343002.out)
            have n1_:=aK (qg_ BK335.out)
            have n2_:=aK (qg_ BK336.out)
            have n3_:=aK (qg_ BK342.out)
            have n4_:=aK (qc_ HB.out)
            clear HO_343002
            clear BK335
            clear BK336
            clear BK342
            clear HB
            have HO_343002:=n0_
            have BK335:=n1_
            have BK336:=n2_
            have BK342:=n3_
            have HB:=n4_
            clear n0_ n1_ n2_ n3_ n4_
            have p344:0≤(x8_1:Int):=of_decide_eq_true (by first|(with_reducible assumption)|assumption)
            have q344:x8_1 < (l0_2.length:Int):=of_decide_eq_true (by first|(with_reducible assumption)|assumption)
            obtain ⟨ad344,e344,hx344_0,hx344_1,hx344_2⟩:=at_T79 HR0_2.out x8_1 p344 q344
            have hw344_2:=hx344_2
            have hw344_1:=hx344_1
            have hw344_0:=hx344_0
            obtain rfl:ad343=ad344:=(by injection e344)
            replace hx344_0:=(HB.out.cell (World.block_lt_of_cell? w _ hx344_0)).trans hx344_0
            replace hx344_1:=(HB.out.cell (World.block_lt_of_cell? w _ hx344_1)).trans hx344_1
            replace hx344_2:=(HB.out.cell (World.block_lt_of_cell? w _ hx344_2)).trans hx344_2
            replace p344:=eq_true p344
            replace q344:=eq_true q344
            obtain ⟨Ao32,co32,eo32⟩:=Kd.qq2_ HO_343002.out
            (first|subst eo32|(injection eo32 with f1_ f2_ f3_;have f4_:=f1_.symm;have f5_:=f3_.symm;clear f1_ f2_ f3_;subst f4_;subst f5_))
            refine start_ (n:=18) (S:=fun w'=>w'.cell? ⟨gb342,0,none⟩=some (.int .i64 t337)∧w'.cell? ⟨gb342,1,none⟩=some (.int .i64 t338)∧w'.cell? ⟨gb342,2,none⟩=some (.slice Ao32 x343002_1.length co32)∧w'.cell? ⟨gb335,0,none⟩=some (.int .i64 a0_0)∧w'.cell? ⟨gb335,1,none⟩=some (.int .i64 a0_1)∧w'.cell? ⟨gb335,2,none⟩=some (.slice (some ad343) l0_2.length c0_2)∧w'.cell? (ad343.add ((x8_1).toNat * 3))=some (.string ((rd_T79 l0_2 x8_1).f0))∧w'.cell? ⟨(ad343.add ((x8_1).toNat * 3)).block,(ad343.add ((x8_1).toNat * 3)).off+1,none⟩=some (.int .i64 ((rd_T79 l0_2 x8_1).f1.f0))∧w'.cell? ⟨(ad343.add ((x8_1).toNat * 3)).block,(ad343.add ((x8_1).toNat * 3)).off+2,none⟩=some (.int .i64 ((rd_T79 l0_2 x8_1).f1.f1))) (ds:=[]) #[fF,fF,fF,fF,fF,fF,fF,fF,fF,fF,fF,fF,fF,fF,fF,fF,fF,fF] (by kernel_rfl) rfl rfl ⟨(qi_ BK342.out 0).trans rfl,(qi_ BK342.out 1).trans rfl,(qi_ BK342.out 2).trans rfl,(qi_ BK335.out 0).trans rfl,(qi_ BK335.out 1).trans rfl,(qi_ BK335.out 2).trans rfl,((HB.out.cell (World.block_lt_of_cell? w _ hw344_0)).trans hw344_0),((HB.out.cell (World.block_lt_of_cell? w _ hw344_1)).trans hw344_1),((HB.out.cell (World.block_lt_of_cell? w _ hw344_2)).trans hw344_2)⟩ (fun hHeld=>?_);refine with_tabW qp_.tab8 qp_.bits8 (fun HT_ HW_=>?_)
            generalize wc.drew=w31 at HO_343002 BK335 BK336 BK342 HB hx344_0 hx344_1 hx344_2 hHeld ⊢
            refine pure_ (i:=0) (N:=some 51) (v:=?_) (a':=?_) #[tT,fF,fF,fF,fF,fF,fF,fF,fF,fF,fF,fF,fF,fF,fF,fF,fF,fF] rfl rfl (any_of HT_.out (by kernel_rfl)) (fun _ _ _ h=>h) (Or.inl ⟨by rfl,?_⟩) ?_ ?_
            rotate_left
            ·intro w'
             go_simp
             with_reducible rfl
            rotate_left
            ·simp only [Act.put,List.setIfInBounds_toArray,List.set_cons_zero,List.set_cons_succ,i64_w,i32_w]
             rfl
            refine pure_ (i:=2) (N:=some 53) (v:=?_) (a':=?_) #[tT,fF,tT,fF,fF,fF,fF,fF,fF,fF,fF,fF,fF,fF,fF,fF,fF,fF] rfl rfl (any_of HT_.out (by kernel_rfl)) (fun _ _ _ h=>h) (Or.inl ⟨by rfl,?_⟩) ?_ ?_
            rotate_left
            ·intro w'
             go_simp
             with_reducible rfl
            rotate_left
            ·simp only [Act.put,List.setIfInBounds_toArray,List.set_cons_zero,List.set_cons_succ,i64_w,i32_w]
             rfl
            refine pure_ (i:=3) (N:=some 54) (v:=?_) (a':=?_) #[tT,fF,tT,tT,fF,fF,fF,fF,fF,fF,fF,fF,fF,fF,fF,fF,fF,fF] rfl rfl (any_of HT_.out (by kernel_rfl)) (fun _ _ _ h=>h) (Or.inl ⟨by rfl,?_⟩) ?_ ?_
            rotate_left
            ·intro w'
             go_simp
             with_reducible rfl
            rotate_left
            ·simp only [Act.put,List.setIfInBounds_toArray,List.set_cons_zero,List.set_cons_succ,i64_w,i32_w]
             rfl
            refine pure_ (i:=4) (N:=some 55) (v:=?_) (a':=?_) #[tT,fF,tT,tT,tT,fF,fF,fF,fF,fF,fF,fF,fF,fF,fF,fF,fF,fF] rfl rfl (any_of HT_.out (by kernel_rfl)) (fun _ _ _ h=>h) (Or.inl ⟨by rfl,?_⟩) ?_ ?_
            rotate_left
            ·intro w'
             go_simp
             with_reducible rfl
            rotate_left
            ·simp only [Act.put,List.setIfInBounds_toArray,List.set_cons_zero,List.set_cons_succ,i64_w,i32_w]
             rfl
            refine pure_ (i:=5) (N:=some 56) (v:=?_) (a':=?_) #[tT,fF,tT,tT,tT,tT,fF,fF,fF,fF,fF,fF,fF,fF,fF,fF,fF,fF] rfl rfl (any_of HT_.out (by kernel_rfl)) (fun _ _ _ h=>h) (Or.inl ⟨by rfl,?_⟩) ?_ ?_
            rotate_left
            ·intro w'
             go_simp
             with_reducible rfl
            rotate_left
            ·simp only [Act.put,List.setIfInBounds_toArray,List.set_cons_zero,List.set_cons_succ,i64_w,i32_w]
             rfl
            refine pure_ (i:=6) (N:=some 57) (v:=?_) (a':=?_) #[tT,fF,tT,tT,tT,tT,tT,fF,fF,fF,fF,fF,fF,fF,fF,fF,fF,fF] rfl rfl (any_of HT_.out (by kernel_rfl)) (fun _ _ _ h=>h) (Or.inl ⟨by rfl,?_⟩) ?_ ?_
            rotate_left
            ·intro w'
             go_simp
             with_reducible rfl
            rotate_left
            ·simp only [Act.put,List.setIfInBounds_toArray,List.set_cons_zero,List.set_cons_succ,i64_w,i32_w]
             rfl
            refine pure_ (i:=8) (N:=some 59) (v:=?_) (a':=?_) #[tT,fF,tT,tT,tT,tT,tT,fF,tT,fF,fF,fF,fF,fF,fF,fF,fF,fF] rfl rfl (any_of HT_.out (by kernel_rfl)) (fun _ _ _ h=>h) (Or.inl ⟨by rfl,?_⟩) ?_ ?_
            rotate_left
            ·intro w'
             go_simp
             with_reducible rfl
            rotate_left
            ·simp only [Act.put,List.setIfInBounds_toArray,List.set_cons_zero,List.set_cons_succ,i64_w,i32_w]
             rfl
            refine take_ (i:=1) (N:=some 52) (v:=?_) (a':=?_) #[tT,tT,tT,tT,tT,tT,tT,fF,tT,fF,fF,fF,fF,fF,fF,fF,fF,fF] rfl rfl (take_ofW HT_.out HW_.out (by kernel_rfl)) (fun _ _ _ h=>h) (Or.inl ⟨by rfl,?_⟩) hHeld ?_ ?_
            rotate_left
            ·rintro w' ⟨s0,s1,s2,s3,s4,s5,s6,s7,s8⟩
             go_simp
             with_reducible rfl
            rotate_left
            ·simp only [Act.put,List.setIfInBounds_toArray,List.set_cons_zero,List.set_cons_succ,i64_w,i32_w]
             rfl
            refine take_ (i:=7) (N:=some 58) (v:=?_) (a':=?_) #[tT,tT,tT,tT,tT,tT,tT,tT,tT,fF,fF,fF,fF,fF,fF,fF,fF,fF] rfl rfl (take_ofW HT_.out HW_.out (by kernel_rfl)) (fun _ _ _ h=>h) (Or.inl ⟨by rfl,?_⟩) hHeld ?_ ?_
            rotate_left
            ·rintro w' ⟨s0,s1,s2,s3,s4,s5,s6,s7,s8⟩
             go_simp
             with_reducible rfl
            rotate_left
            ·simp only [Act.put,List.setIfInBounds_toArray,List.set_cons_zero,List.set_cons_succ,i64_w,i32_w]
             rfl
            refine pure_ (i:=9) (N:=some 60) (v:=?_) (a':=?_) #[tT,tT,tT,tT,tT,tT,tT,tT,tT,tT,fF,fF,fF,fF,fF,fF,fF,fF] rfl rfl (any_of HT_.out (by kernel_rfl)) (fun _ _ _ h=>h) (Or.inl ⟨by rfl,?_⟩) ?_ ?_
            rotate_left
            ·intro w'
             go_simp
             with_reducible rfl
            rotate_left
            ·simp only [Act.put,List.setIfInBounds_toArray,List.set_cons_zero,List.set_cons_succ,i64_w,i32_w]
             rfl
            refine pure_ (i:=10) (N:=some 61) (v:=?_) (a':=?_) #[tT,tT,tT,tT,tT,tT,tT,tT,tT,tT,tT,fF,fF,fF,fF,fF,fF,fF] rfl rfl (any_of HT_.out (by kernel_rfl)) (fun _ _ _ h=>h) (Or.inl ⟨by rfl,?_⟩) ?_ ?_
            rotate_left
            ·intro w'
             go_simp
             with_reducible rfl
            rotate_left
            ·simp only [Act.put,List.setIfInBounds_toArray,List.set_cons_zero,List.set_cons_succ,i64_w,i32_w]
             rfl
            refine take_ (i:=11) (N:=some 62) (v:=?_) (a':=?_) #[tT,tT,tT,tT,tT,tT,tT,tT,tT,tT,tT,tT,fF,fF,fF,fF,fF,fF] rfl rfl (take_ofW HT_.out HW_.out (by kernel_rfl)) (fun _ _ _ h=>h) (Or.inl ⟨by rfl,?_⟩) hHeld ?_ ?_
            rotate_left
            ·rintro w' ⟨s0,s1,s2,s3,s4,s5,s6,s7,s8⟩
             go_simp
             with_reducible rfl
            rotate_left
            ·simp only [Act.put,List.setIfInBounds_toArray,List.set_cons_zero,List.set_cons_succ,i64_w,i32_w]
             rfl
            refine one_ (i:=12) (N:=some 63) #[tT,tT,tT,tT,tT,tT,tT,tT,tT,tT,tT,tT,tT,fF,fF,fF,fF,fF] rfl rfl (one_of HT_.out (by kernel_rfl)) (by decide) (fun K hK=>?_)
            refine goes_ Try.func158 (by kernel_rfl) rfl #[.slice Ao32 x343002_1.length co32,.string (((rd_T79 l0_2 x8_1).f0).extract ((a1.size:Int):Int).toNat ((rd_T79 l0_2 x8_1).f0).size),.agg #[.int .i64 ((rd_T79 l0_2 x8_1).f1.f0),.int .i64 ((rd_T79 l0_2 x8_1).f1.f1)]] (by rfl) rfl rfl (by (try simp only [List.map_toArray,List.map_cons,List.map_nil]);first|done|rfl|(simp only [List.length_drop,List.length_take];rfl)) ?_
            with_reducible refine (qs_.calls kj16 _ _ x343002_1 (((rd_T79 l0_2 x8_1).f0).extract ((a1.size:Int):Int).toNat ((rd_T79 l0_2 x8_1).f0).size) ((rd_T79 l0_2 x8_1).f1.f0) ((rd_T79 l0_2 x8_1).f1.f1) t345 t348 _ ?side1 ?side2 A30.out).mono ?_
            (case side1=>repeat (first|exact (Kd.qp1_ HO_343002.out).2.2|(with_reducible refine Kd.qi2_ ?_ _)|(with_reducible refine Kd.qh2_ ?_ _)|(with_reducible refine Kd.C_drew ?_)))
            (case side2=>exact (Kd.qp1_ HO_343002.out).2.1)
            rintro e w33 ⟨v346,rfl,ho0,hb⟩
            refine ⟨_,rfl,?_⟩
            have n0_:=aK (Kd.qs2_ (by (with_reducible repeat (first|apply Kd.qq_|apply Kd.qr_|apply Kd.R_drew));exact HO_343002.out) (Kd.R_base ho0) hb)
            have n1_:=aK (Kd.qt2_ (Kd.R_new' ho0 (Kd.R_lt (by (with_reducible repeat (first|apply Kd.qq_|apply Kd.qr_|apply Kd.R_drew));exact HO_343002.out))) (qk_ (by repeat (first|(with_reducible first|exact HB.out|apply qb_|apply qa_|apply qc_|refine qf_ ?_ GE335.out|refine qf_ ?_ GE336.out|refine qf_ ?_ GE342.out)|exact HB.out))))
            have n2_:=aK (ql_ (g:=gb335) (o:=.cells #[.int .i64 a0_0,.int .i64 a0_1,.slice (some ad343) l0_2.length c0_2] 38 (0,0)) (by (with_reducible repeat (first|refine qe_ ?_ _|refine qg_ ?_|refine qd_ ?_ _));exact BK335.out) hb)
            have n3_:=aK (ql_ (g:=gb336) (o:=.cells #[.int .i64 0,.int .i64 0,.slice none 0 0] 38 (0,0)) (by (with_reducible repeat (first|refine qe_ ?_ _|refine qg_ ?_|refine qd_ ?_ _));exact BK336.out) hb)
            have n4_:=aK (ql_ (g:=gb342) (o:=.cells #[.int .i64 t337,.int .i64 t338,.slice Ao32 x343002_1.length co32] 38 (0,0)) (by (with_reducible repeat (first|refine qe_ ?_ _|refine qg_ ?_|refine qd_ ?_ _));exact BK342.out) hb)
            have n5_:=aK (qm_ (by repeat (first|(with_reducible first|exact HB.out|apply qb_|apply qa_|apply qc_|refine qf_ ?_ GE335.out|refine qf_ ?_ GE336.out|refine qf_ ?_ GE342.out)|exact HB.out)) hb)
            clear HO_343002
            clear BK335
            clear BK336
            clear BK342
            clear HB
            have HO_343002:=n0_
            have HO347:=n1_
            have BK335:=n2_
            have BK336:=n3_
            have BK342:=n4_
            have HB:=n5_
            clear n0_ n1_ n2_ n3_ n4_ n5_
            (try clear hb)
            (try clear hb2)
            (try clear hk)
            (try clear hi)
            (try clear ho0)
            refine hK.out _ _ ⟨(qi_ BK342.out 0).trans rfl,(qi_ BK342.out 1).trans rfl,(qi_ BK342.out 2).trans rfl,(qi_ BK335.out 0).trans rfl,(qi_ BK335.out 1).trans rfl,(qi_ BK335.out 2).trans rfl,((HB.out.cell (World.block_lt_of_cell? w _ hw344_0)).trans hw344_0),((HB.out.cell (World.block_lt_of_cell? w _ hw344_1)).trans hw344_1),((HB.out.cell (World.block_lt_of_cell? w _ hw344_2)).trans hw344_2)⟩ (fun hHeld=>?_)
            clear hK K
            refine norm_ (a':=?_) ?_ ?_
            rotate_left
            ·show Act.put _ (some 63) _=_
             simp only [Act.put,List.setIfInBounds_toArray,List.set_cons_zero,List.set_cons_succ,i64_w,i32_w]
             rfl
            refine pure_ (i:=13) (N:=some 50) (v:=?_) (a':=?_) #[tT,tT,tT,tT,tT,tT,tT,tT,tT,tT,tT,tT,tT,tT,fF,fF,fF,fF] rfl rfl (any_of HT_.out (by kernel_rfl)) (fun _ _ _ h=>h) (Or.inl ⟨by rfl,?_⟩) ?_ ?_
            rotate_left
            ·intro w'
             go_simp
             with_reducible rfl
            rotate_left
            ·simp only [Act.put,List.setIfInBounds_toArray,List.set_cons_zero,List.set_cons_succ,i64_w,i32_w]
             rfl
            refine pure_ (i:=14) (N:=some 64) (v:=?_) (a':=?_) #[tT,tT,tT,tT,tT,tT,tT,tT,tT,tT,tT,tT,tT,tT,tT,fF,fF,fF] rfl rfl (any_of HT_.out (by kernel_rfl)) (fun _ _ _ h=>h) (Or.inl ⟨by rfl,?_⟩) ?_ ?_
            rotate_left
            ·intro w'
             go_simp
             with_reducible rfl
            rotate_left
            ·simp only [Act.put,List.setIfInBounds_toArray,List.set_cons_zero,List.set_cons_succ,i64_w,i32_w]
             rfl
            refine pure_ (i:=15) (N:=some 65) (v:=?_) (a':=?_) #[tT,tT,tT,tT,tT,tT,tT,tT,tT,tT,tT,tT,tT,tT,tT,tT,fF,fF] rfl rfl (any_of HT_.out (by kernel_rfl)) (fun _ _ _ h=>h) (Or.inl ⟨by rfl,?_⟩) ?_ ?_
            rotate_left
            ·intro w'
             go_simp
             with_reducible rfl
            rotate_left
            ·simp only [Act.put,List.setIfInBounds_toArray,List.set_cons_zero,List.set_cons_succ,i64_w,i32_w]
             rfl
            refine pure_ (i:=16) (N:=some 11) (v:=?_) (a':=?_) #[tT,tT,tT,tT,tT,tT,tT,tT,tT,tT,tT,tT,tT,tT,tT,tT,tT,fF] rfl rfl (any_of HT_.out (by kernel_rfl)) (fun _ _ _ h=>h) (Or.inl ⟨by rfl,?_⟩) ?_ ?_
            rotate_left
            ·intro w'
             go_simp
             with_reducible rfl
            rotate_left
            ·simp only [Act.put,List.setIfInBounds_toArray,List.set_cons_zero,List.set_cons_succ,i64_w,i32_w]
             rfl
            refine pure_ (i:=17) (N:=some 12) (v:=?_) (a':=?_) #[tT,tT,tT,tT,tT,tT,tT,tT,tT,tT,tT,tT,tT,tT,tT,tT,tT,tT] rfl rfl (any_of HT_.out (by kernel_rfl)) (fun _ _ _ h=>h) (Or.inl ⟨by rfl,?_⟩) ?_ ?_
            rotate_left
            ·intro w'
             go_simp
             with_reducible rfl
            rotate_left
            ·simp only [Act.put,List.setIfInBounds_toArray,List.set_cons_zero,List.set_cons_succ,i64_w,i32_w]
             rfl
            refine done_ (done_of HT_.out (by kernel_rfl)) ?_
            obtain ⟨Ao34,co34,eo34⟩:=Kd.qq2_ HO347.out
            subst eo34
            have hnb35:=NB342_335.out
            have hnc35:=NB335_342.out
            have hnb36:=NB342_336.out
            have hnc36:=NB336_342.out
            have hcz37_0:w33.cell? ⟨gb342,0,none⟩=some (.int .i64 t337):=(qi_ BK342.out 0).trans rfl
            have hcz37_1:w33.cell? ⟨gb342,1,none⟩=some (.int .i64 t338):=(qi_ BK342.out 1).trans rfl
            have hcz37_2:w33.cell? ⟨gb342,2,none⟩=some (.slice Ao32 x343002_1.length co32):=(qi_ BK342.out 2).trans rfl
            have hfz37_0:=qh_ BK342.out 0
            have hfz37_1:=qh_ BK342.out 1
            have hfz37_2:=qh_ BK342.out 2
            try go_wp2
            go_roundg kj16
            case measure=>have:=HK1.out;have:=HJ16.out;omega
            case rel=>exact ⟨(wrap64 (x8_1+1)),(t345),(.slice Ao34 t345.length co34),(by first|rfl|(simp;done)|(simp [*];done)),H',⟨by have:=HK1.out;have:=HJ16.out;omega⟩,⟨by (with_reducible repeat (first|apply Kd.qq_|apply Kd.qr_|apply Kd.R_drew));exact Kd.R_mono (Kd.R_far (p:=⟨gb342,2,none⟩) (Kd.qg2_ HO347.out BK342.out (by decide)) (fun _ hk=>hk.2) (.slice Ao34 t345.length co34)) (fun _ hk=>trivial)⟩,⟨by (with_reducible repeat (first|refine qe_ ?_ _|refine qg_ ?_|refine qd_ ?_ _));refine qa1_ ?_ NB335_342.out _;(with_reducible repeat (first|refine qe_ ?_ _|refine qg_ ?_|refine qd_ ?_ _));exact BK335.out⟩,⟨by (with_reducible repeat (first|refine qe_ ?_ _|refine qg_ ?_|refine qd_ ?_ _));refine qa1_ ?_ NB336_342.out _;(with_reducible repeat (first|refine qe_ ?_ _|refine qg_ ?_|refine qd_ ?_ _));exact BK336.out⟩,⟨by (with_reducible repeat (first|refine qe_ ?_ _|refine qg_ ?_|refine qd_ ?_ _));refine qy_ (cs:=#[.int .i64 t337,.int .i64 t338,.slice Ao32 x343002_1.length co32]) ?_ 2 _ rfl;(with_reducible repeat (first|refine qe_ ?_ _|refine qg_ ?_|refine qd_ ?_ _));exact BK342.out⟩,⟨by repeat (first|(with_reducible first|exact HB.out|apply qb_|apply qa_|apply qc_|refine qf_ ?_ GE335.out|refine qf_ ?_ GE336.out|refine qf_ ?_ GE342.out)|exact HB.out)⟩⟩
           ·rw [if_neg c29] at H
            exact absurd H (by simp)
          ·rw [if_neg c28] at H
           exact absurd H (by simp)
         ·rw [if_neg c27] at H
          exact absurd H (by simp)
        ·rw [if_neg c26] at H
         exact absurd H (by simp)
       ·replace c25:=Bool.eq_false_iff.mpr c25
        subst c25
        have H1:(if (wrap64 ((((rd_T79 l0_2 x8_1).f0).size:Int) - (a1.size:Int))) ≥ 0 then (if a2=true then (if 0≤(wrap64 ((((rd_T79 l0_2 x8_1).f0).size:Int) - (a1.size:Int))) then (if (wrap64 ((((rd_T79 l0_2 x8_1).f0).size:Int) - (a1.size:Int)))≤(((rd_T79 l0_2 x8_1).f0).size:Int) then (if (((rd_T79 l0_2 x8_1).f0).extract ((wrap64 ((((rd_T79 l0_2 x8_1).f0).size:Int) - (a1.size:Int))):Int).toNat ((rd_T79 l0_2 x8_1).f0).size).toList=a1.toList then (if 0≤x8_1 then (if x8_1 < (l0_2.length:Int) then ((qs_.f kj16 x343002_1 (((rd_T79 l0_2 x8_1).f0).extract 0 ((wrap64 ((((rd_T79 l0_2 x8_1).f0).size:Int) - (a1.size:Int))):Int).toNat) ((rd_T79 l0_2 x8_1).f1.f0) ((rd_T79 l0_2 x8_1).f1.f1)).bind fun bt350=>(qp_.l0 kj16 a1 a2 (wrap64 (x8_1+1)) a0_0 a0_1 l0_2 t337 t338 bt350.1)) else (none)) else (none)) else (qp_.l0 kj16 a1 a2 (wrap64 (x8_1+1)) a0_0 a0_1 l0_2 t337 t338 x343002_1)) else (none)) else (none)) else (qp_.l0 kj16 a1 a2 (wrap64 (x8_1+1)) a0_0 a0_1 l0_2 t337 t338 x343002_1)) else (qp_.l0 kj16 a1 a2 (wrap64 (x8_1+1)) a0_0 a0_1 l0_2 t337 t338 x343002_1))=some (r1,r2,r3):=by rw [if_neg (show ¬ (false=true) by decide)] at H;exact H
        clear H
        have H:=H1
        clear H1
        by_cases c38:(wrap64 ((((rd_T79 l0_2 x8_1).f0).size:Int) - (a1.size:Int))) ≥ 0
        ·rw [if_pos c38] at H
         have c38b0:decide (0≤(wrap64 ((((rd_T79 l0_2 x8_1).f0).size:Int) - (a1.size:Int))))=true:=decide_eq_true c38
         clear c38
         by_cases c39:a2=true
         ·subst c39
          have H1:(if 0≤(wrap64 ((((rd_T79 l0_2 x8_1).f0).size:Int) - (a1.size:Int))) then (if (wrap64 ((((rd_T79 l0_2 x8_1).f0).size:Int) - (a1.size:Int)))≤(((rd_T79 l0_2 x8_1).f0).size:Int) then (if (((rd_T79 l0_2 x8_1).f0).extract ((wrap64 ((((rd_T79 l0_2 x8_1).f0).size:Int) - (a1.size:Int))):Int).toNat ((rd_T79 l0_2 x8_1).f0).size).toList=a1.toList then (if 0≤x8_1 then (if x8_1 < (l0_2.length:Int) then ((qs_.f kj16 x343002_1 (((rd_T79 l0_2 x8_1).f0).extract 0 ((wrap64 ((((rd_T79 l0_2 x8_1).f0).size:Int) - (a1.size:Int))):Int).toNat) ((rd_T79 l0_2 x8_1).f1.f0) ((rd_T79 l0_2 x8_1).f1.f1)).bind fun bt350=>(qp_.l0 kj16 a1 true (wrap64 (x8_1+1)) a0_0 a0_1 l0_2 t337 t338 bt350.1)) else (none)) else (none)) else (qp_.l0 kj16 a1 true (wrap64 (x8_1+1)) a0_0 a0_1 l0_2 t337 t338 x343002_1)) else (none)) else (none))=some (r1,r2,r3):=by rw [if_pos rfl] at H;exact H
          clear H
          have H:=H1
          clear H1
          obtain ⟨ji40,hji40⟩:∃ j_:Int,(wrap64 ((((rd_T79 l0_2 x8_1).f0).size:Int) - (a1.size:Int)))=j_:=⟨_,rfl⟩
          replace H:(if 0≤(ji40) then (if (ji40)≤(((rd_T79 l0_2 x8_1).f0).size:Int) then (if (((rd_T79 l0_2 x8_1).f0).extract ((ji40):Int).toNat ((rd_T79 l0_2 x8_1).f0).size).toList=a1.toList then (if 0≤x8_1 then (if x8_1 < (l0_2.length:Int) then ((qs_.f kj16 x343002_1 (((rd_T79 l0_2 x8_1).f0).extract 0 ((ji40):Int).toNat) ((rd_T79 l0_2 x8_1).f1.f0) ((rd_T79 l0_2 x8_1).f1.f1)).bind fun bt350=>(qp_.l0 kj16 a1 true (wrap64 (x8_1+1)) a0_0 a0_1 l0_2 t337 t338 bt350.1)) else (none)) else (none)) else (qp_.l0 kj16 a1 true (wrap64 (x8_1+1)) a0_0 a0_1 l0_2 t337 t338 x343002_1)) else (none)) else (none))=some (r1,r2,r3):=by first|(rw [hji40] at H;exact H)|(simp only [hji40] at H ⊢;exact H)
          (try rw [hji40] at c38b0)
          have hji40w:(IntKind.i64.wrap ((((rd_T79 l0_2 x8_1).f0).size:Int) - (a1.size:Int)))=ji40:=(i64_w _).trans hji40
          by_cases c41:0≤(ji40)
          ·rw [if_pos c41] at H
           have c41b0:=eq_true c41
           have c41b1:decide (0≤(ji40))=true:=decide_eq_true c41
           clear c41
           by_cases c42:(ji40)≤(((rd_T79 l0_2 x8_1).f0).size:Int)
           ·rw [if_pos c42] at H
            have c42b0:=eq_true c42
            have c42b1:decide ((ji40)≤(((rd_T79 l0_2 x8_1).f0).size:Int))=true:=decide_eq_true c42
            clear c42
            by_cases c43:(((rd_T79 l0_2 x8_1).f0).extract ((ji40):Int).toNat ((rd_T79 l0_2 x8_1).f0).size).toList=a1.toList
            ·rw [if_pos c43] at H
             have c43b0:((((rd_T79 l0_2 x8_1).f0).extract ((ji40):Int).toNat ((rd_T79 l0_2 x8_1).f0).size).toList == a1.toList)=true:=beq_iff_eq.mpr c43
             have c43b1:((((rd_T79 l0_2 x8_1).f0).extract ((ji40):Int).toNat ((rd_T79 l0_2 x8_1).f0).size).toList != a1.toList)=false:=bne_eq_false_iff_eq.mpr c43
             clear c43
             have c44b0:=eq_true (of_decide_eq_true (by first|(with_reducible assumption)|assumption):0≤(ji40))
             have c45b0:=eq_true (of_decide_eq_true (by first|(with_reducible assumption)|assumption):(ji40)≤(((rd_T79 l0_2 x8_1).f0).size:Int))
             by_cases c46:0≤x8_1
             ·rw [if_pos c46] at H
              have c46b0:decide (0≤x8_1)=true:=decide_eq_true c46
              clear c46
              by_cases c47:x8_1 < (l0_2.length:Int)
              ·rw [if_pos c47] at H
               have c47b0:decide (x8_1 < (l0_2.length:Int))=true:=decide_eq_true c47
               clear c47
               replace H:=Option.bind_eq_some_iff.mp H
               obtain ⟨⟨t350,t353⟩,A480,H⟩:=H
               replace H:(qp_.l0 kj16 a1 true (wrap64 (x8_1+1)) a0_0 a0_1 l0_2 t337 t338 t350)=some (r1,r2,r3):=H
               have A48:=aK A480
               clear A480
               have H':=aK H
               clear H
               try go_wp2
               have n0_:=aK (Kd.R_drew HO_343002.out)
               have n1_:=aK (qg_ BK335.out)
               have n2_:=aK (qg_ BK336.out)
               have n3_:=aK (qg_ BK342.out)
               have n4_:=aK (qc_ HB.out)
               clear HO_343002
               clear BK335
               clear BK336
               clear BK342
               clear HB
               have HO_343002:=n0_
               have BK335:=n1_
               have BK336:=n2_
               have BK342:=n3_
               have HB:=n4_
               clear n0_ n1_ n2_ n3_ n4_
               have p349:0≤(x8_1:Int):=of_decide_eq_true (by first|(with_reducible assumption)|assumption)
               have q349:x8_1 < (l0_2.length:Int):=of_decide_eq_true (by first|(with_reducible assumption)|assumption)
               obtain ⟨ad349,e349,hx349_0,hx349_1,hx349_2⟩:=at_T79 HR0_2.out x8_1 p349 q349
               have hw349_2:=hx349_2
               have hw349_1:=hx349_1
               have hw349_0:=hx349_0
               obtain rfl:ad343=ad349:=(by injection e349)
               replace hx349_0:=(HB.out.cell (World.block_lt_of_cell? w _ hx349_0)).trans hx349_0
               replace hx349_1:=(HB.out.cell (World.block_lt_of_cell? w _ hx349_1)).trans hx349_1
               replace hx349_2:=(HB.out.cell (World.block_lt_of_cell? w _ hx349_2)).trans hx349_2
               replace p349:=eq_true p349
               replace q349:=eq_true q349
               obtain ⟨Ao50,co50,eo50⟩:=Kd.qq2_ HO_343002.out
               (first|subst eo50|(injection eo50 with f1_ f2_ f3_;have f4_:=f1_.symm;have f5_:=f3_.symm;clear f1_ f2_ f3_;subst f4_;subst f5_))
               refine start_ (n:=17) (S:=fun w'=>w'.cell? ⟨gb342,0,none⟩=some (.int .i64 t337)∧w'.cell? ⟨gb342,1,none⟩=some (.int .i64 t338)∧w'.cell? ⟨gb342,2,none⟩=some (.slice Ao50 x343002_1.length co50)∧w'.cell? ⟨gb335,0,none⟩=some (.int .i64 a0_0)∧w'.cell? ⟨gb335,1,none⟩=some (.int .i64 a0_1)∧w'.cell? ⟨gb335,2,none⟩=some (.slice (some ad343) l0_2.length c0_2)∧w'.cell? (ad343.add ((x8_1).toNat * 3))=some (.string ((rd_T79 l0_2 x8_1).f0))∧w'.cell? ⟨(ad343.add ((x8_1).toNat * 3)).block,(ad343.add ((x8_1).toNat * 3)).off+1,none⟩=some (.int .i64 ((rd_T79 l0_2 x8_1).f1.f0))∧w'.cell? ⟨(ad343.add ((x8_1).toNat * 3)).block,(ad343.add ((x8_1).toNat * 3)).off+2,none⟩=some (.int .i64 ((rd_T79 l0_2 x8_1).f1.f1))) (ds:=[]) #[fF,fF,fF,fF,fF,fF,fF,fF,fF,fF,fF,fF,fF,fF,fF,fF,fF] (by kernel_rfl) rfl rfl ⟨(qi_ BK342.out 0).trans rfl,(qi_ BK342.out 1).trans rfl,(qi_ BK342.out 2).trans rfl,(qi_ BK335.out 0).trans rfl,(qi_ BK335.out 1).trans rfl,(qi_ BK335.out 2).trans rfl,((HB.out.cell (World.block_lt_of_cell? w _ hw349_0)).trans hw349_0),((HB.out.cell (World.block_lt_of_cell? w _ hw349_1)).trans hw349_1),((HB.out.cell (World.block_lt_of_cell? w _ hw349_2)).trans hw349_2)⟩ (fun hHeld=>?_);refine with_tabW qp_.tab11 qp_.bits11 (fun HT_ HW_=>?_)
               generalize wc.drew=w49 at HO_343002 BK335 BK336 BK342 HB hx349_0 hx349_1 hx349_2 hHeld ⊢
               refine pure_ (i:=0) (N:=some 82) (v:=?_) (a':=?_) #[tT,fF,fF,fF,fF,fF,fF,fF,fF,fF,fF,fF,fF,fF,fF,fF,fF] rfl rfl (any_of HT_.out (by kernel_rfl)) (fun _ _ _ h=>h) (Or.inl ⟨by rfl,?_⟩) ?_ ?_
               rotate_left
               ·intro w'
                go_simp
                with_reducible rfl
               rotate_left
               ·simp only [Act.put,List.setIfInBounds_toArray,List.set_cons_zero,List.set_cons_succ,i64_w,i32_w]
                rfl
               refine pure_ (i:=2) (N:=some 84) (v:=?_) (a':=?_) #[tT,fF,tT,fF,fF,fF,fF,fF,fF,fF,fF,fF,fF,fF,fF,fF,fF] rfl rfl (any_of HT_.out (by kernel_rfl)) (fun _ _ _ h=>h) (Or.inl ⟨by rfl,?_⟩) ?_ ?_
               rotate_left
               ·intro w'
                go_simp
                with_reducible rfl
               rotate_left
               ·simp only [Act.put,List.setIfInBounds_toArray,List.set_cons_zero,List.set_cons_succ,i64_w,i32_w]
                rfl
               refine pure_ (i:=3) (N:=some 85) (v:=?_) (a':=?_) #[tT,fF,tT,tT,fF,fF,fF,fF,fF,fF,fF,fF,fF,fF,fF,fF,fF] rfl rfl (any_of HT_.out (by kernel_rfl)) (fun _ _ _ h=>h) (Or.inl ⟨by rfl,?_⟩) ?_ ?_
               rotate_left
               ·intro w'
                go_simp
                with_reducible rfl
               rotate_left
               ·simp only [Act.put,List.setIfInBounds_toArray,List.set_cons_zero,List.set_cons_succ,i64_w,i32_w]
                rfl
               refine pure_ (i:=4) (N:=some 86) (v:=?_) (a':=?_) #[tT,fF,tT,tT,tT,fF,fF,fF,fF,fF,fF,fF,fF,fF,fF,fF,fF] rfl rfl (any_of HT_.out (by kernel_rfl)) (fun _ _ _ h=>h) (Or.inl ⟨by rfl,?_⟩) ?_ ?_
               rotate_left
               ·intro w'
                go_simp
                with_reducible rfl
               rotate_left
               ·simp only [Act.put,List.setIfInBounds_toArray,List.set_cons_zero,List.set_cons_succ,i64_w,i32_w]
                rfl
               refine pure_ (i:=5) (N:=some 87) (v:=?_) (a':=?_) #[tT,fF,tT,tT,tT,tT,fF,fF,fF,fF,fF,fF,fF,fF,fF,fF,fF] rfl rfl (any_of HT_.out (by kernel_rfl)) (fun _ _ _ h=>h) (Or.inl ⟨by rfl,?_⟩) ?_ ?_
               rotate_left
               ·intro w'
                go_simp
                with_reducible rfl
               rotate_left
               ·simp only [Act.put,List.setIfInBounds_toArray,List.set_cons_zero,List.set_cons_succ,i64_w,i32_w]
                rfl
               refine pure_ (i:=7) (N:=some 89) (v:=?_) (a':=?_) #[tT,fF,tT,tT,tT,tT,fF,tT,fF,fF,fF,fF,fF,fF,fF,fF,fF] rfl rfl (any_of HT_.out (by kernel_rfl)) (fun _ _ _ h=>h) (Or.inl ⟨by rfl,?_⟩) ?_ ?_
               rotate_left
               ·intro w'
                go_simp
                with_reducible rfl
               rotate_left
               ·simp only [Act.put,List.setIfInBounds_toArray,List.set_cons_zero,List.set_cons_succ,i64_w,i32_w]
                rfl
               refine take_ (i:=1) (N:=some 83) (v:=?_) (a':=?_) #[tT,tT,tT,tT,tT,tT,fF,tT,fF,fF,fF,fF,fF,fF,fF,fF,fF] rfl rfl (take_ofW HT_.out HW_.out (by kernel_rfl)) (fun _ _ _ h=>h) (Or.inl ⟨by rfl,?_⟩) hHeld ?_ ?_
               rotate_left
               ·rintro w' ⟨s0,s1,s2,s3,s4,s5,s6,s7,s8⟩
                go_simp
                with_reducible rfl
               rotate_left
               ·simp only [Act.put,List.setIfInBounds_toArray,List.set_cons_zero,List.set_cons_succ,i64_w,i32_w]
                rfl
               refine take_ (i:=6) (N:=some 88) (v:=?_) (a':=?_) #[tT,tT,tT,tT,tT,tT,tT,tT,fF,fF,fF,fF,fF,fF,fF,fF,fF] rfl rfl (take_ofW HT_.out HW_.out (by kernel_rfl)) (fun _ _ _ h=>h) (Or.inl ⟨by rfl,?_⟩) hHeld ?_ ?_
               rotate_left
               ·rintro w' ⟨s0,s1,s2,s3,s4,s5,s6,s7,s8⟩
                go_simp
                with_reducible rfl
               rotate_left
               ·simp only [Act.put,List.setIfInBounds_toArray,List.set_cons_zero,List.set_cons_succ,i64_w,i32_w]
                rfl
               refine pure_ (i:=8) (N:=some 90) (v:=?_) (a':=?_) #[tT,tT,tT,tT,tT,tT,tT,tT,tT,fF,fF,fF,fF,fF,fF,fF,fF] rfl rfl (any_of HT_.out (by kernel_rfl)) (fun _ _ _ h=>h) (Or.inl ⟨by rfl,?_⟩) ?_ ?_
               rotate_left
               ·intro w'
                go_simp
                with_reducible rfl
               rotate_left
               ·simp only [Act.put,List.setIfInBounds_toArray,List.set_cons_zero,List.set_cons_succ,i64_w,i32_w]
                rfl
               refine pure_ (i:=9) (N:=some 91) (v:=?_) (a':=?_) #[tT,tT,tT,tT,tT,tT,tT,tT,tT,tT,fF,fF,fF,fF,fF,fF,fF] rfl rfl (any_of HT_.out (by kernel_rfl)) (fun _ _ _ h=>h) (Or.inl ⟨by rfl,?_⟩) ?_ ?_
               rotate_left
               ·intro w'
                go_simp
                with_reducible rfl
               rotate_left
               ·simp only [Act.put,List.setIfInBounds_toArray,List.set_cons_zero,List.set_cons_succ,i64_w,i32_w]
                rfl
               refine take_ (i:=10) (N:=some 92) (v:=?_) (a':=?_) #[tT,tT,tT,tT,tT,tT,tT,tT,tT,tT,tT,fF,fF,fF,fF,fF,fF] rfl rfl (take_ofW HT_.out HW_.out (by kernel_rfl)) (fun _ _ _ h=>h) (Or.inl ⟨by rfl,?_⟩) hHeld ?_ ?_
               rotate_left
               ·rintro w' ⟨s0,s1,s2,s3,s4,s5,s6,s7,s8⟩
                go_simp
                with_reducible rfl
               rotate_left
               ·simp only [Act.put,List.setIfInBounds_toArray,List.set_cons_zero,List.set_cons_succ,i64_w,i32_w]
                rfl
               refine one_ (i:=11) (N:=some 93) #[tT,tT,tT,tT,tT,tT,tT,tT,tT,tT,tT,tT,fF,fF,fF,fF,fF] rfl rfl (one_of HT_.out (by kernel_rfl)) (by decide) (fun K hK=>?_)
               refine goes_ Try.func158 (by kernel_rfl) rfl #[.slice Ao50 x343002_1.length co50,.string (((rd_T79 l0_2 x8_1).f0).extract 0 ((ji40):Int).toNat),.agg #[.int .i64 ((rd_T79 l0_2 x8_1).f1.f0),.int .i64 ((rd_T79 l0_2 x8_1).f1.f1)]] (by rfl) rfl rfl (by (try simp only [List.map_toArray,List.map_cons,List.map_nil]);first|done|(simp only [hji40];rfl)|rfl|(simp only [List.length_drop,List.length_take];rfl)) ?_
               with_reducible refine (qs_.calls kj16 _ _ x343002_1 (((rd_T79 l0_2 x8_1).f0).extract 0 ((ji40):Int).toNat) ((rd_T79 l0_2 x8_1).f1.f0) ((rd_T79 l0_2 x8_1).f1.f1) t350 t353 _ ?side1 ?side2 A48.out).mono ?_
               (case side1=>repeat (first|exact (Kd.qp1_ HO_343002.out).2.2|(with_reducible refine Kd.qi2_ ?_ _)|(with_reducible refine Kd.qh2_ ?_ _)|(with_reducible refine Kd.C_drew ?_)))
               (case side2=>exact (Kd.qp1_ HO_343002.out).2.1)
               rintro e w51 ⟨v351,rfl,ho0,hb⟩
               refine ⟨_,rfl,?_⟩
               have n0_:=aK (Kd.qs2_ (by (with_reducible repeat (first|apply Kd.qq_|apply Kd.qr_|apply Kd.R_drew));exact HO_343002.out) (Kd.R_base ho0) hb)
               have n1_:=aK (Kd.qt2_ (Kd.R_new' ho0 (Kd.R_lt (by (with_reducible repeat (first|apply Kd.qq_|apply Kd.qr_|apply Kd.R_drew));exact HO_343002.out))) (qk_ (by repeat (first|(with_reducible first|exact HB.out|apply qb_|apply qa_|apply qc_|refine qf_ ?_ GE335.out|refine qf_ ?_ GE336.out|refine qf_ ?_ GE342.out)|exact HB.out))))
               have n2_:=aK (ql_ (g:=gb335) (o:=.cells #[.int .i64 a0_0,.int .i64 a0_1,.slice (some ad343) l0_2.length c0_2] 38 (0,0)) (by (with_reducible repeat (first|refine qe_ ?_ _|refine qg_ ?_|refine qd_ ?_ _));exact BK335.out) hb)
               have n3_:=aK (ql_ (g:=gb336) (o:=.cells #[.int .i64 0,.int .i64 0,.slice none 0 0] 38 (0,0)) (by (with_reducible repeat (first|refine qe_ ?_ _|refine qg_ ?_|refine qd_ ?_ _));exact BK336.out) hb)
               have n4_:=aK (ql_ (g:=gb342) (o:=.cells #[.int .i64 t337,.int .i64 t338,.slice Ao50 x343002_1.length co50] 38 (0,0)) (by (with_reducible repeat (first|refine qe_ ?_ _|refine qg_ ?_|refine qd_ ?_ _));exact BK342.out) hb)
               have n5_:=aK (qm_ (by repeat (first|(with_reducible first|exact HB.out|apply qb_|apply qa_|apply qc_|refine qf_ ?_ GE335.out|refine qf_ ?_ GE336.out|refine qf_ ?_ GE342.out)|exact HB.out)) hb)
               clear HO_343002
               clear BK335
               clear BK336
               clear BK342
               clear HB
               have HO_343002:=n0_
               have HO352:=n1_
               have BK335:=n2_
               have BK336:=n3_
               have BK342:=n4_
               have HB:=n5_
               clear n0_ n1_ n2_ n3_ n4_ n5_
               (try clear hb)
               (try clear hb2)
               (try clear hk)
               (try clear hi)
               (try clear ho0)
               refine hK.out _ _ ⟨(qi_ BK342.out 0).trans rfl,(qi_ BK342.out 1).trans rfl,(qi_ BK342.out 2).trans rfl,(qi_ BK335.out 0).trans rfl,(qi_ BK335.out 1).trans rfl,(qi_ BK335.out 2).trans rfl,((HB.out.cell (World.block_lt_of_cell? w _ hw349_0)).trans hw349_0),((HB.out.cell (World.block_lt_of_cell? w _ hw349_1)).trans hw349_1),((HB.out.cell (World.block_lt_of_cell? w _ hw349_2)).trans hw349_2)⟩ (fun hHeld=>?_)
               clear hK K
               refine norm_ (a':=?_) ?_ ?_
               rotate_left
               ·show Act.put _ (some 93) _=_
                simp only [Act.put,List.setIfInBounds_toArray,List.set_cons_zero,List.set_cons_succ,i64_w,i32_w]
                rfl
               refine pure_ (i:=12) (N:=some 81) (v:=?_) (a':=?_) #[tT,tT,tT,tT,tT,tT,tT,tT,tT,tT,tT,tT,tT,fF,fF,fF,fF] rfl rfl (any_of HT_.out (by kernel_rfl)) (fun _ _ _ h=>h) (Or.inl ⟨by rfl,?_⟩) ?_ ?_
               rotate_left
               ·intro w'
                go_simp
                with_reducible rfl
               rotate_left
               ·simp only [Act.put,List.setIfInBounds_toArray,List.set_cons_zero,List.set_cons_succ,i64_w,i32_w]
                rfl
               refine pure_ (i:=13) (N:=some 94) (v:=?_) (a':=?_) #[tT,tT,tT,tT,tT,tT,tT,tT,tT,tT,tT,tT,tT,tT,fF,fF,fF] rfl rfl (any_of HT_.out (by kernel_rfl)) (fun _ _ _ h=>h) (Or.inl ⟨by rfl,?_⟩) ?_ ?_
               rotate_left
               ·intro w'
                go_simp
                with_reducible rfl
               rotate_left
               ·simp only [Act.put,List.setIfInBounds_toArray,List.set_cons_zero,List.set_cons_succ,i64_w,i32_w]
                rfl
               refine pure_ (i:=14) (N:=some 95) (v:=?_) (a':=?_) #[tT,tT,tT,tT,tT,tT,tT,tT,tT,tT,tT,tT,tT,tT,tT,fF,fF] rfl rfl (any_of HT_.out (by kernel_rfl)) (fun _ _ _ h=>h) (Or.inl ⟨by rfl,?_⟩) ?_ ?_
               rotate_left
               ·intro w'
                go_simp
                with_reducible rfl
               rotate_left
               ·simp only [Act.put,List.setIfInBounds_toArray,List.set_cons_zero,List.set_cons_succ,i64_w,i32_w]
                rfl
               refine pure_ (i:=15) (N:=some 13) (v:=?_) (a':=?_) #[tT,tT,tT,tT,tT,tT,tT,tT,tT,tT,tT,tT,tT,tT,tT,tT,fF] rfl rfl (any_of HT_.out (by kernel_rfl)) (fun _ _ _ h=>h) (Or.inl ⟨by rfl,?_⟩) ?_ ?_
               rotate_left
               ·intro w'
                go_simp
                with_reducible rfl
               rotate_left
               ·simp only [Act.put,List.setIfInBounds_toArray,List.set_cons_zero,List.set_cons_succ,i64_w,i32_w]
                rfl
               refine pure_ (i:=16) (N:=some 14) (v:=?_) (a':=?_) #[tT,tT,tT,tT,tT,tT,tT,tT,tT,tT,tT,tT,tT,tT,tT,tT,tT] rfl rfl (any_of HT_.out (by kernel_rfl)) (fun _ _ _ h=>h) (Or.inl ⟨by rfl,?_⟩) ?_ ?_
               rotate_left
               ·intro w'
                go_simp
                with_reducible rfl
               rotate_left
               ·simp only [Act.put,List.setIfInBounds_toArray,List.set_cons_zero,List.set_cons_succ,i64_w,i32_w]
                rfl
               refine done_ (done_of HT_.out (by kernel_rfl)) ?_
               obtain ⟨Ao52,co52,eo52⟩:=Kd.qq2_ HO352.out
               subst eo52
               have hnb53:=NB342_335.out
               have hnc53:=NB335_342.out
               have hnb54:=NB342_336.out
               have hnc54:=NB336_342.out
               have hcz55_0:w51.cell? ⟨gb342,0,none⟩=some (.int .i64 t337):=(qi_ BK342.out 0).trans rfl
               have hcz55_1:w51.cell? ⟨gb342,1,none⟩=some (.int .i64 t338):=(qi_ BK342.out 1).trans rfl
               have hcz55_2:w51.cell? ⟨gb342,2,none⟩=some (.slice Ao50 x343002_1.length co50):=(qi_ BK342.out 2).trans rfl
               have hfz55_0:=qh_ BK342.out 0
               have hfz55_1:=qh_ BK342.out 1
               have hfz55_2:=qh_ BK342.out 2
               try go_wp2
               go_roundg kj16
               case measure=>have:=HK1.out;have:=HJ16.out;omega
               case rel=>exact ⟨(wrap64 (x8_1+1)),(t350),(.slice Ao52 t350.length co52),(by first|rfl|(simp;done)|(simp [*];done)),H',⟨by have:=HK1.out;have:=HJ16.out;omega⟩,⟨by (with_reducible repeat (first|apply Kd.qq_|apply Kd.qr_|apply Kd.R_drew));exact Kd.R_mono (Kd.R_far (p:=⟨gb342,2,none⟩) (Kd.qg2_ HO352.out BK342.out (by decide)) (fun _ hk=>hk.2) (.slice Ao52 t350.length co52)) (fun _ hk=>trivial)⟩,⟨by (with_reducible repeat (first|refine qe_ ?_ _|refine qg_ ?_|refine qd_ ?_ _));refine qa1_ ?_ NB335_342.out _;(with_reducible repeat (first|refine qe_ ?_ _|refine qg_ ?_|refine qd_ ?_ _));exact BK335.out⟩,⟨by (with_reducible repeat (first|refine qe_ ?_ _|refine qg_ ?_|refine qd_ ?_ _));refine qa1_ ?_ NB336_342.out _;(with_reducible repeat (first|refine qe_ ?_ _|refine qg_ ?_|refine qd_ ?_ _));exact BK336.out⟩,⟨by (with_reducible repeat (first|refine qe_ ?_ _|refine qg_ ?_|refine qd_ ?_ _));refine qy_ (cs:=#[.int .i64 t337,.int .i64 t338,.slice Ao50 x343002_1.length co50]) ?_ 2 _ rfl;(with_reducible repeat (first|refine qe_ ?_ _|refine qg_ ?_|refine qd_ ?_ _));exact BK342.out⟩,⟨by repeat (first|(with_reducible first|exact HB.out|apply qb_|apply qa_|apply qc_|refine qf_ ?_ GE335.out|refine qf_ ?_ GE336.out|refine qf_ ?_ GE342.out)|exact HB.out)⟩⟩
              ·rw [if_neg c47] at H
               exact absurd H (by simp)
             ·rw [if_neg c46] at H
              exact absurd H (by simp)
            ·rw [if_neg c43] at H
             have c43b0:((((rd_T79 l0_2 x8_1).f0).extract ((ji40):Int).toNat ((rd_T79 l0_2 x8_1).f0).size).toList == a1.toList)=false:=beq_eq_false_iff_ne.mpr c43
             have c43b1:((((rd_T79 l0_2 x8_1).f0).extract ((ji40):Int).toNat ((rd_T79 l0_2 x8_1).f0).size).toList != a1.toList)=true:=bne_iff_ne.mpr c43
             have H':=aK H
             clear H
             go_wp2
             go_roundg kj16
             case measure=>have:=HK1.out;have:=HJ16.out;omega
             case rel=>exact ⟨(wrap64 (x8_1+1)),(x343002_1),(u343002),(by first|rfl|(simp;done)|(simp [*];done)),H',⟨by have:=HK1.out;have:=HJ16.out;omega⟩,⟨by (with_reducible repeat (first|apply Kd.qq_|apply Kd.qr_|apply Kd.R_drew));exact HO_343002.out⟩,⟨by (with_reducible repeat (first|refine qe_ ?_ _|refine qg_ ?_|refine qd_ ?_ _));exact BK335.out⟩,⟨by (with_reducible repeat (first|refine qe_ ?_ _|refine qg_ ?_|refine qd_ ?_ _));exact BK336.out⟩,⟨by (with_reducible repeat (first|refine qe_ ?_ _|refine qg_ ?_|refine qd_ ?_ _));exact BK342.out⟩,⟨by repeat (first|(with_reducible first|exact HB.out|apply qb_|apply qa_|apply qc_|refine qf_ ?_ GE335.out|refine qf_ ?_ GE336.out|refine qf_ ?_ GE342.out)|exact HB.out)⟩⟩
           ·rw [if_neg c42] at H
            exact absurd H (by simp)
          ·rw [if_neg c41] at H
           exact absurd H (by simp)
         ·replace c39:=Bool.eq_false_iff.mpr c39
          subst c39
          have H1:(qp_.l0 kj16 a1 false (wrap64 (x8_1+1)) a0_0 a0_1 l0_2 t337 t338 x343002_1)=some (r1,r2,r3):=by rw [if_neg (show ¬ (false=true) by decide)] at H;exact H
          clear H
          have H:=H1
          clear H1
          have H':=aK H
          clear H
          go_wp2
          go_roundg kj16
          case measure=>have:=HK1.out;have:=HJ16.out;omega
          case rel=>exact ⟨(wrap64 (x8_1+1)),(x343002_1),(u343002),(by first|rfl|(simp;done)|(simp [*];done)),H',⟨by have:=HK1.out;have:=HJ16.out;omega⟩,⟨by (with_reducible repeat (first|apply Kd.qq_|apply Kd.qr_|apply Kd.R_drew));exact HO_343002.out⟩,⟨by (with_reducible repeat (first|refine qe_ ?_ _|refine qg_ ?_|refine qd_ ?_ _));exact BK335.out⟩,⟨by (with_reducible repeat (first|refine qe_ ?_ _|refine qg_ ?_|refine qd_ ?_ _));exact BK336.out⟩,⟨by (with_reducible repeat (first|refine qe_ ?_ _|refine qg_ ?_|refine qd_ ?_ _));exact BK342.out⟩,⟨by repeat (first|(with_reducible first|exact HB.out|apply qb_|apply qa_|apply qc_|refine qf_ ?_ GE335.out|refine qf_ ?_ GE336.out|refine qf_ ?_ GE342.out)|exact HB.out)⟩⟩
        ·rw [if_neg c38] at H
         have c38b0:decide (0≤(wrap64 ((((rd_T79 l0_2 x8_1).f0).size:Int) - (a1.size:Int))))=false:=decide_eq_false c38
         clear c38
         have H':=aK H
         clear H
         go_wp2
         go_roundg kj16
         case measure=>have:=HK1.out;have:=HJ16.out;omega
         case rel=>exact ⟨(wrap64 (x8_1+1)),(x343002_1),(u343002),(by first|rfl|(simp;done)|(simp [*];done)),H',⟨by have:=HK1.out;have:=HJ16.out;omega⟩,⟨by (with_reducible repeat (first|apply Kd.qq_|apply Kd.qr_|apply Kd.R_drew));exact HO_343002.out⟩,⟨by (with_reducible repeat (first|refine qe_ ?_ _|refine qg_ ?_|refine qd_ ?_ _));exact BK335.out⟩,⟨by (with_reducible repeat (first|refine qe_ ?_ _|refine qg_ ?_|refine qd_ ?_ _));exact BK336.out⟩,⟨by (with_reducible repeat (first|refine qe_ ?_ _|refine qg_ ?_|refine qd_ ?_ _));exact BK342.out⟩,⟨by repeat (first|(with_reducible first|exact HB.out|apply qb_|apply qa_|apply qc_|refine qf_ ?_ GE335.out|refine qf_ ?_ GE336.out|refine qf_ ?_ GE342.out)|exact HB.out)⟩⟩
    ·rw [if_neg c16] at H
     exact absurd H (by simp)
   ·rw [if_neg c15] at H
    have c15b0:decide (x8_1 < (l0_2.length:Int))=false:=decide_eq_false c15
    clear c15
    simp only [Option.some.injEq,Prod.mk.injEq] at H
    obtain ⟨rfl,rfl,rfl⟩:=H
    have hnb56:=NB335_336.out
    have hnc56:=NB336_335.out
    have hnb57:=NB335_342.out
    have hnc57:=NB342_335.out
    have hcz58_0:wr.cell? ⟨gb335,0,none⟩=some (.int .i64 a0_0):=(qi_ BK335.out 0).trans rfl
    have hcz58_1:wr.cell? ⟨gb335,1,none⟩=some (.int .i64 a0_1):=(qi_ BK335.out 1).trans rfl
    have hcz58_2:wr.cell? ⟨gb335,2,none⟩=some (.slice A0_2 l0_2.length c0_2):=(qi_ BK335.out 2).trans rfl
    have hfz58_0:=qh_ BK335.out 0
    have hfz58_1:=qh_ BK335.out 1
    have hfz58_2:=qh_ BK335.out 2
    have hnb59:=NB342_336.out
    have hnc59:=NB336_342.out
    have hcz60_0:wr.cell? ⟨gb342,0,none⟩=some (.int .i64 t337):=(qi_ BK342.out 0).trans rfl
    have hcz60_1:wr.cell? ⟨gb342,1,none⟩=some (.int .i64 t338):=(qi_ BK342.out 1).trans rfl
    have hcz60_2:wr.cell? ⟨gb342,2,none⟩=some (u343002):=(qi_ BK342.out 2).trans rfl
    have hfz60_0:=qh_ BK342.out 0
    have hfz60_1:=qh_ BK342.out 1
    have hfz60_2:=qh_ BK342.out 2
    have hcz61_0:wr.cell? ⟨gb336,0,none⟩=some (.int .i64 0):=(qi_ BK336.out 0).trans rfl
    have hcz61_1:wr.cell? ⟨gb336,1,none⟩=some (.int .i64 0):=(qi_ BK336.out 1).trans rfl
    have hcz61_2:wr.cell? ⟨gb336,2,none⟩=some (.slice none 0 0):=(qi_ BK336.out 2).trans rfl
    have hfz61_0:=qh_ BK336.out 0
    have hfz61_1:=qh_ BK336.out 1
    have hfz61_2:=qh_ BK336.out 2
    obtain ⟨Ao62,co62,eo62⟩:=Kd.qq2_ HO_343002.out
    subst eo62
    go_wp2
    refine bodyPost_ret (results_cell_row rfl _ _ gb336 38 #[.int .i64 t337,.int .i64 t338,.slice Ao62 x343002_1.length co62] (0,0) _ rfl (by (with_reducible repeat (first|refine qe_ ?_ _|refine qg_ ?_|refine qd_ ?_ _));refine qy_ (cs:=#[.int .i64 t337,.int .i64 t338,.slice none 0 0]) ?_ 2 _ rfl;(with_reducible repeat (first|refine qe_ ?_ _|refine qg_ ?_|refine qd_ ?_ _));refine qy_ (cs:=#[.int .i64 t337,.int .i64 0,.slice none 0 0]) ?_ 1 _ rfl;(with_reducible repeat (first|refine qe_ ?_ _|refine qg_ ?_|refine qd_ ?_ _));refine qy_ (cs:=#[.int .i64 0,.int .i64 0,.slice none 0 0]) ?_ 0 _ rfl;(with_reducible repeat (first|refine qe_ ?_ _|refine qg_ ?_|refine qd_ ?_ _));exact BK336.out) Try.underlying38 rfl (by kernel_rfl)) rfl ?_
    exact ⟨_,by first|rfl|(simp [qn_,qo_] <;> rfl)|(simp [*,qn_,qo_] <;> rfl),by (with_reducible repeat (first|apply Kd.qq_|apply Kd.qr_|apply Kd.R_drew));exact Kd.R_mono (Kd.R_far (p:=⟨gb336,2,none⟩) (Kd.R_far (p:=⟨gb336,1,none⟩) (Kd.R_far (p:=⟨gb336,0,none⟩) (Kd.qg2_ HO_343002.out BK336.out (by decide)) (fun _ hk=>hk.2) (.int .i64 t337)) (fun _ hk=>hk.2) (.int .i64 t338)) (fun _ hk=>hk.2) (.slice Ao62 x343002_1.length co62)) (fun _ hk=>trivial),by repeat (first|(with_reducible first|exact HB.out|apply qb_|apply qa_|apply qc_|refine qf_ ?_ GE335.out|refine qf_ ?_ GE336.out|refine qf_ ?_ GE342.out)|exact HB.out)⟩
end Go.Proofs.Ytaiefdhenikiiaa.Base
namespace Go.Proofs.Ytaiefdhenikiiaa.Base
open Go.RowKit Go.Proofs.YtaiefdhenikiiaaW.PrintWords Go.Proofs.YtaiefdhenikiiaaW.PrintLast Go.Proofs.YtaiefdhenikiiaaW.PrintMore
attribute [local go_sem] max2_int qv1_ max_two min_two max_three min_three max_four min_four Go.Proofs.YtaiefdhenikiiaaZ.qe1_   -- for this text's walks alone
set_option linter.unusedVariables false
set_option linter.unusedSimpArgs false
def qo2_.f (k:Nat) (a0_0:Int) (a0_1:Int) (l0_2:List (S79)) (a1:ByteArray):Option (Int):=(qx_.f k a0_0 a0_1 l0_2).bind fun t260=>(if t260=true then ((qd1_.f k a0_0 a1).bind fun t261=>(if t261=true then (if (a1.size:Int) > a0_1 then (some 2) else (some 0)) else (some 2))) else (some 1))
theorem qo2_.mono:∀ a0 a1 a2 a3 k,LeO (qo2_.f k a0 a1 a2 a3) (qo2_.f (k+1) a0 a1 a2 a3):=by
 intro a0 a1 a2 a3 k
 unfold qo2_.f
 repeat' first
   | (with_reducible exact qx_.mono _ _ _ _)
   | (with_reducible exact qd1_.mono _ _ _)
   | (with_reducible exact LeO.refl _)
   | (with_reducible exact LeO.none _)
   | (with_reducible refine LeO.ite ?_ ?_)
   | (with_reducible refine LeO.bind ?_ (fun _=>?_))
   | exact qx_.mono _ _ _ _
   | exact qd1_.mono _ _ _
   | exact LeO.none _
   | refine LeO.ite ?_ ?_
   | refine LeO.bind ?_ (fun _=>?_)
set_option maxHeartbeats 8000000 in
set_option maxRecDepth 100000 in
theorem qo2_.calls (k:Nat) (a0_0:Int) (a0_1:Int) (A0_2:Option Addr) (c0_2:Nat) (l0_2:List (S79)) (a1:ByteArray) (r:Int) (w:World) (hr0_2:Kd.C k79 w A0_2 l0_2.length l0_2) (hc0_2:l0_2.length≤c0_2) (h:qo2_.f k a0_0 a0_1 l0_2 a1=some r) :
  Calls Try.prog 85 #[.agg #[.int .i64 a0_0,.int .i64 a0_1,.slice A0_2 l0_2.length c0_2],.string a1] w fun e w'=>e=.returned (.int .i64 r)∧Below w.heap.size w w':=by
 have hu38:=Try.underlying38
 have HR0_2:=aK hr0_2
 have HC0_2:=aK hc0_2
 clear hr0_2 hc0_2
 have HB:=aK (Below.refl w.heap.size w)
 have H:((qx_.f k a0_0 a0_1 l0_2).bind fun t260=>(if t260=true then ((qd1_.f k a0_0 a1).bind fun t261=>(if t261=true then (if (a1.size:Int) > a0_1 then (some 2) else (some 0)) else (some 2))) else (some 1)))=some r:=h
 clear h
 replace H:=Option.bind_eq_some_iff.mp H
 obtain ⟨t260,A30,H⟩:=H
 replace H:(if t260=true then ((qd1_.f k a0_0 a1).bind fun t261=>(if t261=true then (if (a1.size:Int) > a0_1 then (some 2) else (some 0)) else (some 2))) else (some 1))=some r:=H
 have A3:=aK A30
 clear A30
 by_cases c4:t260=true
 ·subst c4
  have H1:((qd1_.f k a0_0 a1).bind fun t261=>(if t261=true then (if (a1.size:Int) > a0_1 then (some 2) else (some 0)) else (some 2)))=some r:=by rw [if_pos rfl] at H;exact H
  clear H
  have H:=H1
  clear H1
  replace H:=Option.bind_eq_some_iff.mp H
  obtain ⟨t261,A50,H⟩:=H
  replace H:(if t261=true then (if (a1.size:Int) > a0_1 then (some 2) else (some 0)) else (some 2))=some r:=H
  have A5:=aK A50
  clear A50
  by_cases c6:t261=true
  ·subst c6
   have H1:(if (a1.size:Int) > a0_1 then (some 2) else (some 0))=some r:=by rw [if_pos rfl] at H;exact H
   clear H
   have H:=H1
   clear H1
   by_cases c7:(a1.size:Int) > a0_1
   ·rw [if_pos c7] at H
    have c7b0:decide (a0_1 < (a1.size:Int))=true:=decide_eq_true c7
    clear c7
    obtain rfl:=Option.some.inj H
    go_enter Try.func85,Try.ntmps85
    go_wp2_with (first|((with_reducible refine qz_ (N:=2) rfl ?_);(try (refine qh3_ (by rfl) ?_;dsimp only));refine qv_ ?hg (N:=2) ?hd (cs:=#[.int .i64 a0_0,.int .i64 a0_1,.slice A0_2 l0_2.length c0_2]) (t:=38) ?hr ?_;(case hd=>rfl);(case hg=>rfl);(case hr=>first|(go_simp;done)|(go_simp;rfl));intro gb259 hg w8 hbox hb;have n0_:=aK (qm_ (by repeat (first|(with_reducible first|exact HB.out|apply qb_|apply qa_|apply qc_)|exact HB.out)) hb);have n1_:=aK (hbox);have n2_:=aK ((by rw [hg];exact (qk_ (by repeat (first|(with_reducible first|exact HB.out|apply qb_|apply qa_|apply qc_)|exact HB.out))):w.heap.size≤gb259));have n3_:=aK ((by rw [hg];exact (qk_ (by repeat (first|(with_reducible first|exact HB.out|apply qb_|apply qa_|apply qc_)|exact HB.out))):w.heap.size≤gb259));clear HB;have HB:=n0_;have BK259:=n1_;have GW259:=n2_;have GE259:=n3_;clear n0_ n1_ n2_ n3_;clear hb hbox hg;have hcz9_0:w8.cell? ⟨gb259,0,none⟩=some (.int .i64 a0_0):=(qi_ BK259.out 0).trans rfl;have hcz9_1:w8.cell? ⟨gb259,1,none⟩=some (.int .i64 a0_1):=(qi_ BK259.out 1).trans rfl;have hcz9_2:w8.cell? ⟨gb259,2,none⟩=some (.slice A0_2 l0_2.length c0_2):=(qi_ BK259.out 2).trans rfl;have hfz9_0:=qh_ BK259.out 0;have hfz9_1:=qh_ BK259.out 1;have hfz9_2:=qh_ BK259.out 2)|((with_reducible refine qt_ (f:=82) rfl ?_);refine goesL_ (some 7) rfl rfl Try.func82 (by kernel_rfl) rfl #[.agg #[.int .i64 a0_0,.int .i64 a0_1,.slice A0_2 l0_2.length c0_2]] rfl (by (try simp only [List.map_toArray,List.map_cons,List.map_nil]);first|done|rfl|(simp only [List.length_drop,List.length_take];rfl)) ?_;(with_reducible refine (qx_.calls k a0_0 a0_1 _ _ l0_2 true _ ?side1 ?side2 A3.out).mono ?_);(case side1=>repeat (first|exact (Kd.qn2_ HR0_2.out HB.out)|(with_reducible refine Kd.qi2_ ?_ _)|(with_reducible refine Kd.qh2_ ?_ _)|(with_reducible refine Kd.C_drew ?_)));(case side2=>exact HC0_2.out);rintro e w10 ⟨rfl,hb⟩;refine ⟨_,rfl,?_⟩;have n0_:=aK (ql_ (g:=gb259) (o:=.cells #[.int .i64 a0_0,.int .i64 a0_1,.slice A0_2 l0_2.length c0_2] 38 (0,0)) (by (with_reducible repeat (first|refine qe_ ?_ _|refine qg_ ?_|refine qd_ ?_ _));exact BK259.out) hb);have n1_:=aK (qm_ (by repeat (first|(with_reducible first|exact HB.out|apply qb_|apply qa_|apply qc_|refine qf_ ?_ GE259.out)|exact HB.out)) hb);clear BK259;clear HB;have BK259:=n0_;have HB:=n1_;clear n0_ n1_;(try clear hb);(try clear hb2);(try clear hk);(try clear hi);have hcz11_0:w10.cell? ⟨gb259,0,none⟩=some (.int .i64 a0_0):=(qi_ BK259.out 0).trans rfl;have hcz11_1:w10.cell? ⟨gb259,1,none⟩=some (.int .i64 a0_1):=(qi_ BK259.out 1).trans rfl;have hcz11_2:w10.cell? ⟨gb259,2,none⟩=some (.slice A0_2 l0_2.length c0_2):=(qi_ BK259.out 2).trans rfl;have hfz11_0:=qh_ BK259.out 0;have hfz11_1:=qh_ BK259.out 1;have hfz11_2:=qh_ BK259.out 2)|((with_reducible refine qt_ (f:=150) rfl ?_);refine goesL_ (some 13) rfl rfl Try.func150 (by kernel_rfl) rfl #[.int .i64 a0_0,.string a1] rfl (by (try simp only [List.map_toArray,List.map_cons,List.map_nil]);first|done|rfl|(simp only [List.length_drop,List.length_take];rfl)) ?_;(with_reducible refine (qd1_.calls k a0_0 a1 true _ A5.out).mono ?_);rintro e w' ⟨rfl,⟨nd,rfl⟩⟩;refine ⟨_,rfl,?_⟩))
    go_ret
    exact ⟨by first|rfl|(simp [qn_,qo_] <;> rfl)|(simp [*,qn_,qo_] <;> rfl),by repeat (first|(with_reducible first|exact HB.out|apply qb_|apply qa_|apply qc_|refine qf_ ?_ GE259.out)|exact HB.out)⟩
   ·rw [if_neg c7] at H
    have c7b0:decide (a0_1 < (a1.size:Int))=false:=decide_eq_false c7
    clear c7
    obtain rfl:=Option.some.inj H
    go_enter Try.func85,Try.ntmps85
    go_wp2_with (first|((with_reducible refine qz_ (N:=2) rfl ?_);(try (refine qh3_ (by rfl) ?_;dsimp only));refine qv_ ?hg (N:=2) ?hd (cs:=#[.int .i64 a0_0,.int .i64 a0_1,.slice A0_2 l0_2.length c0_2]) (t:=38) ?hr ?_;(case hd=>rfl);(case hg=>rfl);(case hr=>first|(go_simp;done)|(go_simp;rfl));intro gb259 hg w12 hbox hb;have n0_:=aK (qm_ (by repeat (first|(with_reducible first|exact HB.out|apply qb_|apply qa_|apply qc_)|exact HB.out)) hb);have n1_:=aK (hbox);have n2_:=aK ((by rw [hg];exact (qk_ (by repeat (first|(with_reducible first|exact HB.out|apply qb_|apply qa_|apply qc_)|exact HB.out))):w.heap.size≤gb259));have n3_:=aK ((by rw [hg];exact (qk_ (by repeat (first|(with_reducible first|exact HB.out|apply qb_|apply qa_|apply qc_)|exact HB.out))):w.heap.size≤gb259));clear HB;have HB:=n0_;have BK259:=n1_;have GW259:=n2_;have GE259:=n3_;clear n0_ n1_ n2_ n3_;clear hb hbox hg;have hcz13_0:w12.cell? ⟨gb259,0,none⟩=some (.int .i64 a0_0):=(qi_ BK259.out 0).trans rfl;have hcz13_1:w12.cell? ⟨gb259,1,none⟩=some (.int .i64 a0_1):=(qi_ BK259.out 1).trans rfl;have hcz13_2:w12.cell? ⟨gb259,2,none⟩=some (.slice A0_2 l0_2.length c0_2):=(qi_ BK259.out 2).trans rfl;have hfz13_0:=qh_ BK259.out 0;have hfz13_1:=qh_ BK259.out 1;have hfz13_2:=qh_ BK259.out 2)|((with_reducible refine qt_ (f:=82) rfl ?_);refine goesL_ (some 7) rfl rfl Try.func82 (by kernel_rfl) rfl #[.agg #[.int .i64 a0_0,.int .i64 a0_1,.slice A0_2 l0_2.length c0_2]] rfl (by (try simp only [List.map_toArray,List.map_cons,List.map_nil]);first|done|rfl|(simp only [List.length_drop,List.length_take];rfl)) ?_;(with_reducible refine (qx_.calls k a0_0 a0_1 _ _ l0_2 true _ ?side1 ?side2 A3.out).mono ?_);(case side1=>repeat (first|exact (Kd.qn2_ HR0_2.out HB.out)|(with_reducible refine Kd.qi2_ ?_ _)|(with_reducible refine Kd.qh2_ ?_ _)|(with_reducible refine Kd.C_drew ?_)));(case side2=>exact HC0_2.out);rintro e w14 ⟨rfl,hb⟩;refine ⟨_,rfl,?_⟩;have n0_:=aK (ql_ (g:=gb259) (o:=.cells #[.int .i64 a0_0,.int .i64 a0_1,.slice A0_2 l0_2.length c0_2] 38 (0,0)) (by (with_reducible repeat (first|refine qe_ ?_ _|refine qg_ ?_|refine qd_ ?_ _));exact BK259.out) hb);have n1_:=aK (qm_ (by repeat (first|(with_reducible first|exact HB.out|apply qb_|apply qa_|apply qc_|refine qf_ ?_ GE259.out)|exact HB.out)) hb);clear BK259;clear HB;have BK259:=n0_;have HB:=n1_;clear n0_ n1_;(try clear hb);(try clear hb2);(try clear hk);(try clear hi);have hcz15_0:w14.cell? ⟨gb259,0,none⟩=some (.int .i64 a0_0):=(qi_ BK259.out 0).trans rfl;have hcz15_1:w14.cell? ⟨gb259,1,none⟩=some (.int .i64 a0_1):=(qi_ BK259.out 1).trans rfl;have hcz15_2:w14.cell? ⟨gb259,2,none⟩=some (.slice A0_2 l0_2.length c0_2):=(qi_ BK259.out 2).trans rfl;have hfz15_0:=qh_ BK259.out 0;have hfz15_1:=qh_ BK259.out 1;have hfz15_2:=qh_ BK259.out 2)|((with_reducible refine qt_ (f:=150) rfl ?_);refine goesL_ (some 13) rfl rfl Try.func150 (by kernel_rfl) rfl #[.int .i64 a0_0,.string a1] rfl (by (try simp only [List.map_toArray,List.map_cons,List.map_nil]);first|done|rfl|(simp only [List.length_drop,List.length_take];rfl)) ?_;(with_reducible refine (qd1_.calls k a0_0 a1 true _ A5.out).mono ?_);rintro e w' ⟨rfl,⟨nd,rfl⟩⟩;refine ⟨_,rfl,?_⟩))
    go_ret
    exact ⟨by first|rfl|(simp [qn_,qo_] <;> rfl)|(simp [*,qn_,qo_] <;> rfl),by repeat (first|(with_reducible first|exact HB.out|apply qb_|apply qa_|apply qc_|refine qf_ ?_ GE259.out)|exact HB.out)⟩
  ·replace c6:=Bool.eq_false_iff.mpr c6
   subst c6
   have H1:(some 2)=some r:=by rw [if_neg (show ¬ (false=true) by decide)] at H;exact H
   clear H
   have H:=H1
   clear H1
   obtain rfl:=Option.some.inj H
   go_enter Try.func85,Try.ntmps85
   go_wp2_with (first|((with_reducible refine qz_ (N:=2) rfl ?_);(try (refine qh3_ (by rfl) ?_;dsimp only));refine qv_ ?hg (N:=2) ?hd (cs:=#[.int .i64 a0_0,.int .i64 a0_1,.slice A0_2 l0_2.length c0_2]) (t:=38) ?hr ?_;(case hd=>rfl);(case hg=>rfl);(case hr=>first|(go_simp;done)|(go_simp;rfl));intro gb259 hg w16 hbox hb;have n0_:=aK (qm_ (by repeat (first|(with_reducible first|exact HB.out|apply qb_|apply qa_|apply qc_)|exact HB.out)) hb);have n1_:=aK (hbox);have n2_:=aK ((by rw [hg];exact (qk_ (by repeat (first|(with_reducible first|exact HB.out|apply qb_|apply qa_|apply qc_)|exact HB.out))):w.heap.size≤gb259));have n3_:=aK ((by rw [hg];exact (qk_ (by repeat (first|(with_reducible first|exact HB.out|apply qb_|apply qa_|apply qc_)|exact HB.out))):w.heap.size≤gb259));clear HB;have HB:=n0_;have BK259:=n1_;have GW259:=n2_;have GE259:=n3_;clear n0_ n1_ n2_ n3_;clear hb hbox hg;have hcz17_0:w16.cell? ⟨gb259,0,none⟩=some (.int .i64 a0_0):=(qi_ BK259.out 0).trans rfl;have hcz17_1:w16.cell? ⟨gb259,1,none⟩=some (.int .i64 a0_1):=(qi_ BK259.out 1).trans rfl;have hcz17_2:w16.cell? ⟨gb259,2,none⟩=some (.slice A0_2 l0_2.length c0_2):=(qi_ BK259.out 2).trans rfl;have hfz17_0:=qh_ BK259.out 0;have hfz17_1:=qh_ BK259.out 1;have hfz17_2:=qh_ BK259.out 2)|((with_reducible refine qt_ (f:=82) rfl ?_);refine goesL_ (some 7) rfl rfl Try.func82 (by kernel_rfl) rfl #[.agg #[.int .i64 a0_0,.int .i64 a0_1,.slice A0_2 l0_2.length c0_2]] rfl (by (try simp only [List.map_toArray,List.map_cons,List.map_nil]);first|done|rfl|(simp only [List.length_drop,List.length_take];rfl)) ?_;(with_reducible refine (qx_.calls k a0_0 a0_1 _ _ l0_2 true _ ?side1 ?side2 A3.out).mono ?_);(case side1=>repeat (first|exact (Kd.qn2_ HR0_2.out HB.out)|(with_reducible refine Kd.qi2_ ?_ _)|(with_reducible refine Kd.qh2_ ?_ _)|(with_reducible refine Kd.C_drew ?_)));(case side2=>exact HC0_2.out);rintro e w18 ⟨rfl,hb⟩;refine ⟨_,rfl,?_⟩;have n0_:=aK (ql_ (g:=gb259) (o:=.cells #[.int .i64 a0_0,.int .i64 a0_1,.slice A0_2 l0_2.length c0_2] 38 (0,0)) (by (with_reducible repeat (first|refine qe_ ?_ _|refine qg_ ?_|refine qd_ ?_ _));exact BK259.out) hb);have n1_:=aK (qm_ (by repeat (first|(with_reducible first|exact HB.out|apply qb_|apply qa_|apply qc_|refine qf_ ?_ GE259.out)|exact HB.out)) hb);clear BK259;clear HB;have BK259:=n0_;have HB:=n1_;clear n0_ n1_;(try clear hb);(try clear hb2);(try clear hk);(try clear hi);have hcz19_0:w18.cell? ⟨gb259,0,none⟩=some (.int .i64 a0_0):=(qi_ BK259.out 0).trans rfl;have hcz19_1:w18.cell? ⟨gb259,1,none⟩=some (.int .i64 a0_1):=(qi_ BK259.out 1).trans rfl;have hcz19_2:w18.cell? ⟨gb259,2,none⟩=some (.slice A0_2 l0_2.length c0_2):=(qi_ BK259.out 2).trans rfl;have hfz19_0:=qh_ BK259.out 0;have hfz19_1:=qh_ BK259.out 1;have hfz19_2:=qh_ BK259.out 2)|((with_reducible refine qt_ (f:=150) rfl ?_);refine goesL_ (some 13) rfl rfl Try.func150 (by kernel_rfl) rfl #[.int .i64 a0_0,.string a1] rfl (by (try simp only [List.map_toArray,List.map_cons,List.map_nil]);first|done|rfl|(simp only [List.length_drop,List.length_take];rfl)) ?_;(with_reducible refine (qd1_.calls k a0_0 a1 false _ A5.out).mono ?_);rintro e w' ⟨rfl,⟨nd,rfl⟩⟩;refine ⟨_,rfl,?_⟩))
   go_ret
   exact ⟨by first|rfl|(simp [qn_,qo_] <;> rfl)|(simp [*,qn_,qo_] <;> rfl),by repeat (first|(with_reducible first|exact HB.out|apply qb_|apply qa_|apply qc_|refine qf_ ?_ GE259.out)|exact HB.out)⟩
 ·replace c4:=Bool.eq_false_iff.mpr c4
  subst c4
  have H1:(some 1)=some r:=by rw [if_neg (show ¬ (false=true) by decide)] at H;exact H
  clear H
  have H:=H1
  clear H1
  obtain rfl:=Option.some.inj H
  go_enter Try.func85,Try.ntmps85
  go_wp2_with (first|((with_reducible refine qz_ (N:=2) rfl ?_);(try (refine qh3_ (by rfl) ?_;dsimp only));refine qv_ ?hg (N:=2) ?hd (cs:=#[.int .i64 a0_0,.int .i64 a0_1,.slice A0_2 l0_2.length c0_2]) (t:=38) ?hr ?_;(case hd=>rfl);(case hg=>rfl);(case hr=>first|(go_simp;done)|(go_simp;rfl));intro gb259 hg w20 hbox hb;have n0_:=aK (qm_ (by repeat (first|(with_reducible first|exact HB.out|apply qb_|apply qa_|apply qc_)|exact HB.out)) hb);have n1_:=aK (hbox);have n2_:=aK ((by rw [hg];exact (qk_ (by repeat (first|(with_reducible first|exact HB.out|apply qb_|apply qa_|apply qc_)|exact HB.out))):w.heap.size≤gb259));have n3_:=aK ((by rw [hg];exact (qk_ (by repeat (first|(with_reducible first|exact HB.out|apply qb_|apply qa_|apply qc_)|exact HB.out))):w.heap.size≤gb259));clear HB;have HB:=n0_;have BK259:=n1_;have GW259:=n2_;have GE259:=n3_;clear n0_ n1_ n2_ n3_;clear hb hbox hg;have hcz21_0:w20.cell? ⟨gb259,0,none⟩=some (.int .i64 a0_0):=(qi_ BK259.out 0).trans rfl;have hcz21_1:w20.cell? ⟨gb259,1,none⟩=some (.int .i64 a0_1):=(qi_ BK259.out 1).trans rfl;have hcz21_2:w20.cell? ⟨gb259,2,none⟩=some (.slice A0_2 l0_2.length c0_2):=(qi_ BK259.out 2).trans rfl;have hfz21_0:=qh_ BK259.out 0;have hfz21_1:=qh_ BK259.out 1;have hfz21_2:=qh_ BK259.out 2)|((with_reducible refine qt_ (f:=82) rfl ?_);refine goesL_ (some 7) rfl rfl Try.func82 (by kernel_rfl) rfl #[.agg #[.int .i64 a0_0,.int .i64 a0_1,.slice A0_2 l0_2.length c0_2]] rfl (by (try simp only [List.map_toArray,List.map_cons,List.map_nil]);first|done|rfl|(simp only [List.length_drop,List.length_take];rfl)) ?_;(with_reducible refine (qx_.calls k a0_0 a0_1 _ _ l0_2 false _ ?side1 ?side2 A3.out).mono ?_);(case side1=>repeat (first|exact (Kd.qn2_ HR0_2.out HB.out)|(with_reducible refine Kd.qi2_ ?_ _)|(with_reducible refine Kd.qh2_ ?_ _)|(with_reducible refine Kd.C_drew ?_)));(case side2=>exact HC0_2.out);rintro e w22 ⟨rfl,hb⟩;refine ⟨_,rfl,?_⟩;have n0_:=aK (ql_ (g:=gb259) (o:=.cells #[.int .i64 a0_0,.int .i64 a0_1,.slice A0_2 l0_2.length c0_2] 38 (0,0)) (by (with_reducible repeat (first|refine qe_ ?_ _|refine qg_ ?_|refine qd_ ?_ _));exact BK259.out) hb);have n1_:=aK (qm_ (by repeat (first|(with_reducible first|exact HB.out|apply qb_|apply qa_|apply qc_|refine qf_ ?_ GE259.out)|exact HB.out)) hb);clear BK259;clear HB;have BK259:=n0_;have HB:=n1_;clear n0_ n1_;(try clear hb);(try clear hb2);(try clear hk);(try clear hi)))
  go_ret
  exact ⟨by first|rfl|(simp [qn_,qo_] <;> rfl)|(simp [*,qn_,qo_] <;> rfl),by repeat (first|(with_reducible first|exact HB.out|apply qb_|apply qa_|apply qc_|refine qf_ ?_ GE259.out)|exact HB.out)⟩
end Go.Proofs.Ytaiefdhenikiiaa.Base
namespace Go.Proofs.Ytaiefdhenikiiaa.Base
open Go.RowKit Go.Proofs.YtaiefdhenikiiaaW.PrintWords Go.Proofs.YtaiefdhenikiiaaW.PrintLast Go.Proofs.YtaiefdhenikiiaaW.PrintMore
attribute [local go_sem] max2_int qv1_ max_two min_two max_three min_three max_four min_four Go.Proofs.YtaiefdhenikiiaaZ.qe1_   -- for this text's walks alone
set_option linter.unusedVariables false
set_option linter.unusedSimpArgs false
def qe2_.f (k:Nat) (a0_0:Int) (a0_1:Int) (l0_2:List (S75)) (a1:Int):Option (Int):=(qt1_.f k l0_2 a1).bind fun t192=>(if t192 < 0 then (some (-1)) else (some t192))
theorem qe2_.mono:∀ a0 a1 a2 a3 k,LeO (qe2_.f k a0 a1 a2 a3) (qe2_.f (k+1) a0 a1 a2 a3):=by
 intro a0 a1 a2 a3 k
 unfold qe2_.f
 repeat' first
   | (with_reducible exact qt1_.mono _ _ _)
   | (with_reducible exact LeO.refl _)
   | (with_reducible exact LeO.none _)
   | (with_reducible refine LeO.ite ?_ ?_)
   | (with_reducible refine LeO.bind ?_ (fun _=>?_))
   | exact qt1_.mono _ _ _
   | exact LeO.none _
   | refine LeO.ite ?_ ?_
   | refine LeO.bind ?_ (fun _=>?_)
set_option maxHeartbeats 8000000 in
set_option maxRecDepth 100000 in
theorem qe2_.calls (k:Nat) (a0_0:Int) (a0_1:Int) (A0_2:Option Addr) (c0_2:Nat) (l0_2:List (S75)) (a1:Int) (r:Int) (w:World) (hr0_2:Kd.C k75 w A0_2 l0_2.length l0_2) (hc0_2:l0_2.length≤c0_2) (h:qe2_.f k a0_0 a0_1 l0_2 a1=some r) :
  Calls Try.prog 28 #[.agg #[.int .i64 a0_0,.int .i64 a0_1,.slice A0_2 l0_2.length c0_2],.int .i64 a1] w fun e w'=>e=.returned (.int .i64 r)∧Below w.heap.size w w':=by
 have hu32:=Try.underlying32
 have HR0_2:=aK hr0_2
 have HC0_2:=aK hc0_2
 clear hr0_2 hc0_2
 have HB:=aK (Below.refl w.heap.size w)
 have H:((qt1_.f k l0_2 a1).bind fun t192=>(if t192 < 0 then (some (-1)) else (some t192)))=some r:=h
 clear h
 replace H:=Option.bind_eq_some_iff.mp H
 obtain ⟨t192,A30,H⟩:=H
 replace H:(if t192 < 0 then (some (-1)) else (some t192))=some r:=H
 have A3:=aK A30
 clear A30
 by_cases c4:t192 < 0
 ·rw [if_pos c4] at H
  have c4b0:decide (t192 < 0)=true:=decide_eq_true c4
  clear c4
  obtain rfl:=Option.some.inj H
  go_enter Try.func28,Try.ntmps28
  go_wp2_with (first|((with_reducible refine qz_ (N:=2) rfl ?_);refine qv_ ?hg (N:=2) ?hd (cs:=#[.int .i64 a0_0,.int .i64 a0_1,.slice A0_2 l0_2.length c0_2]) (t:=32) ?hr ?_;(case hd=>rfl);(case hg=>rfl);(case hr=>first|(go_simp;done)|(go_simp;rfl));intro gb191 hg w5 hbox hb;have n0_:=aK (qm_ (by repeat (first|(with_reducible first|exact HB.out|apply qb_|apply qa_|apply qc_)|exact HB.out)) hb);have n1_:=aK (hbox);have n2_:=aK ((by rw [hg];exact (qk_ (by repeat (first|(with_reducible first|exact HB.out|apply qb_|apply qa_|apply qc_)|exact HB.out))):w.heap.size≤gb191));have n3_:=aK ((by rw [hg];exact (qk_ (by repeat (first|(with_reducible first|exact HB.out|apply qb_|apply qa_|apply qc_)|exact HB.out))):w.heap.size≤gb191));clear HB;have HB:=n0_;have BK191:=n1_;have GW191:=n2_;have GE191:=n3_;clear n0_ n1_ n2_ n3_;clear hb hbox hg;have hcz6_0:w5.cell? ⟨gb191,0,none⟩=some (.int .i64 a0_0):=(qi_ BK191.out 0).trans rfl;have hcz6_1:w5.cell? ⟨gb191,1,none⟩=some (.int .i64 a0_1):=(qi_ BK191.out 1).trans rfl;have hcz6_2:w5.cell? ⟨gb191,2,none⟩=some (.slice A0_2 l0_2.length c0_2):=(qi_ BK191.out 2).trans rfl;have hfz6_0:=qh_ BK191.out 0;have hfz6_1:=qh_ BK191.out 1;have hfz6_2:=qh_ BK191.out 2)|((with_reducible refine qt_ (f:=21) rfl ?_);refine goesL_ (some 8) rfl rfl Try.func21 (by kernel_rfl) rfl #[.slice A0_2 l0_2.length c0_2,.int .i64 a1] rfl (by (try simp only [List.map_toArray,List.map_cons,List.map_nil]);first|done|rfl|(simp only [List.length_drop,List.length_take];rfl)) ?_;(with_reducible refine (qt1_.calls k _ _ l0_2 a1 t192 _ ?side1 ?side2 A3.out).mono ?_);(case side1=>repeat (first|exact (Kd.qn2_ HR0_2.out HB.out)|(with_reducible refine Kd.qi2_ ?_ _)|(with_reducible refine Kd.qh2_ ?_ _)|(with_reducible refine Kd.C_drew ?_)));(case side2=>exact HC0_2.out);rintro e w7 ⟨rfl,hb⟩;refine ⟨_,rfl,?_⟩;have n0_:=aK (ql_ (g:=gb191) (o:=.cells #[.int .i64 a0_0,.int .i64 a0_1,.slice A0_2 l0_2.length c0_2] 32 (0,0)) (by (with_reducible repeat (first|refine qe_ ?_ _|refine qg_ ?_|refine qd_ ?_ _));exact BK191.out) hb);have n1_:=aK (qm_ (by repeat (first|(with_reducible first|exact HB.out|apply qb_|apply qa_|apply qc_|refine qf_ ?_ GE191.out)|exact HB.out)) hb);clear BK191;clear HB;have BK191:=n0_;have HB:=n1_;clear n0_ n1_;(try clear hb);(try clear hb2);(try clear hk);(try clear hi)))
  go_ret
  exact ⟨by first|rfl|(simp [qn_,qo_] <;> rfl)|(simp [*,qn_,qo_] <;> rfl),by repeat (first|(with_reducible first|exact HB.out|apply qb_|apply qa_|apply qc_|refine qf_ ?_ GE191.out)|exact HB.out)⟩
 ·rw [if_neg c4] at H
  have c4b0:decide (t192 < 0)=false:=decide_eq_false c4
  clear c4
  obtain rfl:=Option.some.inj H
  go_enter Try.func28,Try.ntmps28
  go_wp2_with (first|((with_reducible refine qz_ (N:=2) rfl ?_);refine qv_ ?hg (N:=2) ?hd (cs:=#[.int .i64 a0_0,.int .i64 a0_1,.slice A0_2 l0_2.length c0_2]) (t:=32) ?hr ?_;(case hd=>rfl);(case hg=>rfl);(case hr=>first|(go_simp;done)|(go_simp;rfl));intro gb191 hg w8 hbox hb;have n0_:=aK (qm_ (by repeat (first|(with_reducible first|exact HB.out|apply qb_|apply qa_|apply qc_)|exact HB.out)) hb);have n1_:=aK (hbox);have n2_:=aK ((by rw [hg];exact (qk_ (by repeat (first|(with_reducible first|exact HB.out|apply qb_|apply qa_|apply qc_)|exact HB.out))):w.heap.size≤gb191));have n3_:=aK ((by rw [hg];exact (qk_ (by repeat (first|(with_reducible first|exact HB.out|apply qb_|apply qa_|apply qc_)|exact HB.out))):w.heap.size≤gb191));clear HB;have HB:=n0_;have BK191:=n1_;have GW191:=n2_;have GE191:=n3_;clear n0_ n1_ n2_ n3_;clear hb hbox hg;have hcz9_0:w8.cell? ⟨gb191,0,none⟩=some (.int .i64 a0_0):=(qi_ BK191.out 0).trans rfl;have hcz9_1:w8.cell? ⟨gb191,1,none⟩=some (.int .i64 a0_1):=(qi_ BK191.out 1).trans rfl;have hcz9_2:w8.cell? ⟨gb191,2,none⟩=some (.slice A0_2 l0_2.length c0_2):=(qi_ BK191.out 2).trans rfl;have hfz9_0:=qh_ BK191.out 0;have hfz9_1:=qh_ BK191.out 1;have hfz9_2:=qh_ BK191.out 2)|((with_reducible refine qt_ (f:=21) rfl ?_);refine goesL_ (some 8) rfl rfl Try.func21 (by kernel_rfl) rfl #[.slice A0_2 l0_2.length c0_2,.int .i64 a1] rfl (by (try simp only [List.map_toArray,List.map_cons,List.map_nil]);first|done|rfl|(simp only [List.length_drop,List.length_take];rfl)) ?_;(with_reducible refine (qt1_.calls k _ _ l0_2 a1 t192 _ ?side1 ?side2 A3.out).mono ?_);(case side1=>repeat (first|exact (Kd.qn2_ HR0_2.out HB.out)|(with_reducible refine Kd.qi2_ ?_ _)|(with_reducible refine Kd.qh2_ ?_ _)|(with_reducible refine Kd.C_drew ?_)));(case side2=>exact HC0_2.out);rintro e w10 ⟨rfl,hb⟩;refine ⟨_,rfl,?_⟩;have n0_:=aK (ql_ (g:=gb191) (o:=.cells #[.int .i64 a0_0,.int .i64 a0_1,.slice A0_2 l0_2.length c0_2] 32 (0,0)) (by (with_reducible repeat (first|refine qe_ ?_ _|refine qg_ ?_|refine qd_ ?_ _));exact BK191.out) hb);have n1_:=aK (qm_ (by repeat (first|(with_reducible first|exact HB.out|apply qb_|apply qa_|apply qc_|refine qf_ ?_ GE191.out)|exact HB.out)) hb);clear BK191;clear HB;have BK191:=n0_;have HB:=n1_;clear n0_ n1_;(try clear hb);(try clear hb2);(try clear hk);(try clear hi)))
  go_ret
  exact ⟨by first|rfl|(simp [qn_,qo_] <;> rfl)|(simp [*,qn_,qo_] <;> rfl),by repeat (first|(with_reducible first|exact HB.out|apply qb_|apply qa_|apply qc_|refine qf_ ?_ GE191.out)|exact HB.out)⟩
end Go.Proofs.Ytaiefdhenikiiaa.Base
