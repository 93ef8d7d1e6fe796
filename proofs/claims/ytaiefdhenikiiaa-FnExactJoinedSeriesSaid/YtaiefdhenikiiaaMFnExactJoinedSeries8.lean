/- Texts that the proof of FnExactJoinedSeries needs, part 8. No condition. -/
import Derived.Test.YtaiefdhenikiiaaMFnExactJoinedSeries7
import Derived.Lib.Bytealg
namespace Go.Proofs.Ytaiefdhenikiiaa.Base
open Go.RowKit Go.Proofs.YtaiefdhenikiiaaW.PrintWords Go.Proofs.YtaiefdhenikiiaaW.PrintLast Go.Proofs.YtaiefdhenikiiaaW.PrintMore
set_option linter.unusedVariables false
set_option linter.unusedSimpArgs false
set_option maxHeartbeats 1000000 in
set_option maxRecDepth 100000 in
theorem compareString_ (a b:ByteArray) (w:World) :
    Calls Try.prog 230 #[.string a,.string b] w fun e w'=>e=.returned (.int .i64 (Lib.compareBytes a.data.toList b.data.toList))∧w'=w:=by
  go_enter Try.func230,Try.ntmps230
  go_wp2
  rw [run_callFunc_extern Try.func231 (by kernel_rfl) (by kernel_rfl) (by kernel_rfl) (e:=Extern.BytealgCompare.compare) (by kernel_rfl),Lib.run_compareString]
  simp only [Result.andThen]
  rw [Oper.upon_value]
  go_wp2
  go_ret
  exact ⟨rfl,rfl⟩
set_option maxHeartbeats 1000000 in
set_option maxRecDepth 100000 in
theorem compare_ (a b:ByteArray) (w:World) :
    Calls Try.prog 223 #[.string a,.string b] w fun e w'=>e=.returned (.int .i64 (Lib.compareBytes a.data.toList b.data.toList))∧w'=w:=by
  go_enter Try.func223,Try.ntmps223
  go_wp2_with (go_at_call 230;refine (compareString_ _ _ _).mono ?_;rintro e w' ⟨rfl,rfl⟩)
  go_ret
  exact ⟨rfl,rfl⟩
/-- The order of words: lengths first. -/
def cmpW (a b:ByteArray):Int:=if (a.size:Int)≠(b.size:Int) then wrap64 ((a.size:Int) - (b.size:Int)) else Lib.compareBytes a.data.toList b.data.toList
set_option maxHeartbeats 1000000 in
set_option maxRecDepth 100000 in
theorem compareWords_ (a b:ByteArray) (w:World) :
    Calls Try.prog 207 #[.string a,.string b] w fun e w'=>e=.returned (.int .i64 (cmpW a b))∧w'=w:=by
  go_enter Try.func207,Try.ntmps207
  by_cases h:(a.size:Int)=(b.size:Int)
  · unfold cmpW;rw [if_neg (fun hh=>hh h)]
    go_wp2_with (go_at_call 223;refine (compare_ _ _ _).mono ?_;rintro e w' ⟨rfl,rfl⟩)
    go_returns
    exact ⟨rfl,rfl⟩
  · unfold cmpW;rw [if_pos h]
    go_wp2
    go_returns
    exact ⟨rfl,rfl⟩
end Go.Proofs.Ytaiefdhenikiiaa.Base
namespace Go.Proofs.Ytaiefdhenikiiaa.Base
open Go.RowKit Go.Proofs.YtaiefdhenikiiaaW.PrintWords Go.Proofs.YtaiefdhenikiiaaW.PrintLast Go.Proofs.YtaiefdhenikiiaaW.PrintMore
set_option linter.unusedVariables false
set_option linter.unusedSimpArgs false
theorem within_is (x lo hi:Int):qb2_.f x lo hi=some (decide (lo≤x∧x≤hi)):=by
  unfold qb2_.f
  by_cases h:lo≤x
  · rw [if_pos h];simp [h]
  · rw [if_neg h];simp [h]
theorem upTo_is (x:Int):qe3_.f x 1000000000=some (decide (-1000000000≤x∧x≤1000000000)):=by
  unfold qe3_.f
  rw [show wrap64 (-1000000000)=-1000000000 from w64 (by omega) (by omega),within_is];rfl
theorem frac_is (a:S77):Ev (fun k=>qf1_.f k a.f0 a.f1) (decide (okF a)):=by
  unfold qf1_.f
  rw [within_is,upTo_is]
  simp only [Option.bind_some]
  by_cases h1:1≤a.f1∧a.f1≤1000000000
  · simp only [h1,and_self,decide_true,if_true]
    by_cases h2:-1000000000≤a.f0∧a.f0≤1000000000
    · simp only [h2,and_self,decide_true,if_true]
      have hg:=common_is (a:=a.f0) (b:=a.f1) (by omega) (by omega)
      refine Ev.bind hg (f:=fun k t=>some (t==1)) ?_
      have e3:(((Int.gcd a.f0 a.f1:Nat):Int)==1)=decide (okF a):=by
        by_cases c:Int.gcd a.f0 a.f1=1
        · rw [decide_eq_true (show okF a from ⟨h1.1,h1.2,h2.1,h2.2,c⟩),c];rfl
        · rw [decide_eq_false (fun h:okF a=>c h.2.2.2.2)]
          have:¬ ((Int.gcd a.f0 a.f1:Nat):Int)=1:=by omega
          simpa using this
      rw [e3]
      exact Ev.now _
    · rw [decide_eq_false h2,decide_eq_false (fun h:okF a=>h2 ⟨h.2.2.1,h.2.2.2.1⟩)]
      exact Ev.now _
  · rw [decide_eq_false h1,decide_eq_false (fun h:okF a=>h1 ⟨h.1,h.2.1⟩)]
    exact Ev.now _
/-- A letter's byte. -/
def letB (d:Nat) (b:UInt8):Bool:=decide (48≤b.toNat∧b.toNat<48+d)
def wordB (d n:Nat) (s:ByteArray):Bool:=s.data.toList.all (letB d) && decide ((s.size:Int)≤(n:Int))
theorem word_loop (d n:Nat) (hd:d≤9) (s:ByteArray) (hs:s.size≤9223372036854775806) (m:Nat):∀ i:Nat,i+m=s.size →
    Ev (fun k=>qu1_.l0 k (d:Int) s (n:Int) (s.size:Int) (i:Int)) ((s.data.toList.drop i).all (letB d) && decide ((s.size:Int)≤(n:Int))):=by
  have hsz:s.data.toList.length=s.size:=by rw [Array.length_toList];rfl
  induction m with
  | zero =>
    intro i hi
    refine Ev.step (f:=fun _=>some (decide ((s.size:Int)≤(n:Int)))) (fun k=>?_) ?_
    · simp only [qu1_.l0]
      rw [if_neg (by omega)]
    · rw [List.drop_eq_nil_of_le (by omega)]
      exact Ev.now _
  | succ m ih =>
    intro i hi
    have hlt:i<s.data.toList.length:=by omega
    have hls:i<s.size:=by omega
    have hb:bt s (i:Int)=((s.data.toList[i]).toNat:Int):=by
      unfold bt
      rw [dif_pos (by simpa using hls)]
      rfl
    have hr:(s.data.toList[i]).toNat<256:=(s.data.toList[i]).toNat_lt
    obtain ⟨b,hbb⟩:∃ b,b=s.data.toList[i]:=⟨_,rfl⟩
    rw [List.drop_eq_getElem_cons hlt,List.all_cons,← hbb]
    rw [← hbb] at hb hr
    by_cases c:letB d b=true
    · refine Ev.step (fun k=>?_) (by rw [c,Bool.true_and];exact ih (i+1) (by omega))
      have c':=of_decide_eq_true c
      simp only [qu1_.l0]
      rw [if_pos (by omega),if_pos (by omega),if_pos (by omega),hb,w64 (by omega) (by omega),w64 (by omega) (by omega),if_neg (by omega),if_neg (by omega),w64 (by omega) (by omega)]
      rfl
    · have cf:letB d b=false:=by simpa using c
      have c':=of_decide_eq_false cf
      rw [cf,Bool.false_and,Bool.false_and]
      refine Ev.step (f:=fun _=>some false) (fun k=>?_) (Ev.now _)
      simp only [qu1_.l0]
      rw [if_pos (by omega),if_pos (by omega),if_pos (by omega),hb,w64 (x:=(b.toNat:Int)) (by omega) (by omega),w64 (x:=48+(d:Int)) (by omega) (by omega)]
      by_cases c2:(b.toNat:Int)<48
      · rw [if_pos c2]
      · rw [if_neg c2,if_pos (by omega)]
theorem word_is (d n:Nat) (hd:d≤9) (s:ByteArray) (hs:s.size≤9223372036854775806):Ev (fun k=>qu1_.f k (d:Int) s (n:Int)) (wordB d n s) :=
  word_loop d n hd s hs s.size 0 (by omega)
end Go.Proofs.Ytaiefdhenikiiaa.Base
namespace Go.Proofs.Ytaiefdhenikiiaa.Base
open Go.RowKit Go.Proofs.YtaiefdhenikiiaaW.PrintWords Go.Proofs.YtaiefdhenikiiaaW.PrintLast Go.Proofs.YtaiefdhenikiiaaW.PrintMore
set_option linter.unusedVariables false
set_option linter.unusedSimpArgs false
/-- A term that stands behind the term y. -/
def termB (d n:Nat) (y:Option S79) (x:S79):Bool :=
  wordB d n x.f0 && decide (okF x.f1) && (x.f1.f0 != 0) && (match y with|none=>true|some y=>decide (cmpW y.f0 x.f0<0))
end Go.Proofs.Ytaiefdhenikiiaa.Base
namespace Go.Proofs.Ytaiefdhenikiiaa.Base
open Go.RowKit Go.Proofs.YtaiefdhenikiiaaW.PrintWords Go.Proofs.YtaiefdhenikiiaaW.PrintLast Go.Proofs.YtaiefdhenikiiaaW.PrintMore
set_option linter.unusedVariables false
set_option linter.unusedSimpArgs false
/-- Does a word come before another one? -/
def befW (v w:ByteArray):Bool:=if (v.size:Int)≠(w.size:Int) then decide ((v.size:Int)<(w.size:Int)) else Op.bytesLess v.toList w.toList
theorem cmpBytes_less:∀ a b:List UInt8,decide (Lib.compareBytes a b<0)=Op.bytesLess a b
  | [],[]=>rfl
  | [],_ :: _=>rfl
  | _ :: _,[]=>rfl
  | a :: x,b :: y=>by
    have ih:=cmpBytes_less x y
    unfold Lib.compareBytes Op.bytesLess
    by_cases h1:a<b
    · rw [if_pos h1];simp [h1]
    · rw [if_neg h1]
      by_cases h2:b<a
      · rw [if_pos h2]
        have h3:(a==b)=false:=by
          rw [beq_eq_false_iff_ne];intro e;rw [e] at h2;exact absurd h2 (UInt8.lt_irrefl b)
        simp [h1,h3]
      · rw [if_neg h2]
        have h3:a=b:=by
          have e1:=UInt8.not_lt.1 h1;have e2:=UInt8.not_lt.1 h2
          exact UInt8.le_antisymm e2 e1
        rw [ih,h3];simp
theorem cmp_bef (a b:ByteArray) (ha:a.size≤1000000000) (hb:b.size≤1000000000):decide (cmpW a b<0)=befW a b:=by
  unfold cmpW befW
  by_cases h:(a.size:Int)=(b.size:Int)
  · rw [if_neg (by simpa using h),if_neg (by simpa using h),cmpBytes_less,ByteArray.toList_eq,ByteArray.toList_eq]
  · rw [if_pos h,if_pos h,w64 (by omega) (by omega),decide_eq_decide];omega
/-- Terms as_ told,one behind the other. -/
def goodB (d n:Nat):List S79→Bool
  | []=>true
  | [x]=>termB d n none x
  | x :: y :: l=>termB d n none x && (befW x.f0 y.f0 && goodB d n (y :: l))
end Go.Proofs.Ytaiefdhenikiiaa.Base
namespace Go.Proofs.Ytaiefdhenikiiaa.Base
open Go.RowKit Go.Proofs.YtaiefdhenikiiaaW.PrintWords Go.Proofs.YtaiefdhenikiiaaW.PrintLast Go.Proofs.YtaiefdhenikiiaaW.PrintMore
attribute [local go_sem] max2_int qp1_ max_two min_two max_three min_three max_four min_four Go.Proofs.YtaiefdhenikiiaaZ.qw_   -- for this text's walks alone
set_option linter.unusedVariables false
set_option linter.unusedSimpArgs false
def qt2_.f (a0 a1:ByteArray):Option (Int):=some (cmpW a0 a1)
theorem qt2_.calls (a0 a1:ByteArray) (r:Int) (w:World) (h:qt2_.f a0 a1=some r) :
  Calls Try.prog 207 #[.string a0,.string a1] w fun e w'=>e=.returned (.int .i64 r)∧Drawn0 w w':=by
 obtain rfl:=Option.some.inj h
 refine (compareWords_ a0 a1 w).mono ?_
 rintro e w' ⟨rfl,rfl⟩
 exact ⟨rfl,0,rfl⟩
end Go.Proofs.Ytaiefdhenikiiaa.Base
namespace Go.Proofs.Ytaiefdhenikiiaa.Base
open Go.RowKit Go.Proofs.YtaiefdhenikiiaaW.PrintWords Go.Proofs.YtaiefdhenikiiaaW.PrintLast Go.Proofs.YtaiefdhenikiiaaW.PrintMore
attribute [local go_sem] max2_int qp1_ max_two min_two max_three min_three max_four min_four Go.Proofs.YtaiefdhenikiiaaZ.qw_   -- for this text's walks alone
set_option linter.unusedVariables false
set_option linter.unusedSimpArgs false
def qm_.l0:Nat→Int→Int→List (S79)→List (S79)→Int→Int→Option (Bool)
 | 0,_,_,_,_,_,_=>none
 | k+1,x0,x1,x2,x9,x10,x11=>if x11<x10 then (if 0≤x11 then (if x11<(x9.length:Int) then ((qu1_.f k x0 ((rd_T79 x9 x11).f0) x1).bind fun t149=>(if t149=true then ((qf1_.f k ((rd_T79 x9 x11).f1.f0) ((rd_T79 x9 x11).f1.f1)).bind fun t150=>(if t150=true then (if ((rd_T79 x9 x11).f1.f0)=0 then (some false) else (if x11 > 0 then (if 0≤(wrap64 (x11 - 1)) then (if (wrap64 (x11 - 1))<(x2.length:Int) then ((qt2_.f ((rd_T79 x2 (wrap64 (x11 - 1))).f0) ((rd_T79 x9 x11).f0)).bind fun t152=>(if t152≥0 then (some false) else (qm_.l0 k x0 x1 x2 x9 x10 (wrap64 (x11+1))))) else (none)) else (none)) else (qm_.l0 k x0 x1 x2 x9 x10 (wrap64 (x11+1))))) else (some false))) else (some false))) else (none)) else (none)) else (some true)
def qm_.f (k:Nat) (a0:Int) (a1:Int) (l2:List (S79)):Option (Bool):=qm_.l0 k a0 a1 l2 l2 (l2.length:Int) 0
theorem qm_.mono_l:∀ k,(∀ y0 y1 y2 y3 y4 y5,LeO (qm_.l0 k y0 y1 y2 y3 y4 y5) (qm_.l0 (k+1) y0 y1 y2 y3 y4 y5))
 | 0=>fun _ _ _ _ _ _ r h=>by simp [qm_.l0] at h
 | k+1=>by
  have ih0:=qm_.mono_l k
  ·intro y0 y1 y2 y3 y4 y5
   unfold qm_.l0
   repeat' first
   | (with_reducible exact ih0 _ _ _ _ _ _)
   | (with_reducible exact qf1_.mono _ _ _)
   | (with_reducible exact qu1_.mono _ _ _ _)
   | (with_reducible exact LeO.refl _)
   | (with_reducible exact LeO.none _)
   | (with_reducible refine LeO.ite ?_ ?_)
   | (with_reducible refine LeO.bind ?_ (fun _=>?_))
   | exact ih0 _ _ _ _ _ _
   | exact qf1_.mono _ _ _
   | exact qu1_.mono _ _ _ _
   | exact LeO.none _
   | refine LeO.ite ?_ ?_
   | refine LeO.bind ?_ (fun _=>?_)
theorem qm_.mono:∀ a0 a1 a2 k,LeO (qm_.f k a0 a1 a2) (qm_.f (k+1) a0 a1 a2):=by
 intro a0 a1 a2 k
 have ih0:=qm_.mono_l k
 unfold qm_.f
 repeat' first
   | (with_reducible exact ih0 _ _ _ _ _ _)
   | (with_reducible exact qf1_.mono _ _ _)
   | (with_reducible exact qu1_.mono _ _ _ _)
   | (with_reducible exact LeO.refl _)
   | (with_reducible exact LeO.none _)
   | (with_reducible refine LeO.ite ?_ ?_)
   | (with_reducible refine LeO.bind ?_ (fun _=>?_))
   | exact ih0 _ _ _ _ _ _
   | exact qf1_.mono _ _ _
   | exact qu1_.mono _ _ _ _
   | exact LeO.none _
   | refine LeO.ite ?_ ?_
   | refine LeO.bind ?_ (fun _=>?_)
def qm_.T4:Bool × List (List Nat × List Nat):=(true,[([],[]),([],[]),([1],[1]),([],[]),([0,2,3],[0,2,3]),([4],[4]),([5,4],[5]),([6],[6]),([7,6],[6,7]),([8,6,6],[6,8]),([9,6],[6,9]),([6,10],[6,10]),([11,9],[11]),([12],[12]),([13,12],[12,13]),([14,12],[12,14]),([15,12],[12,15]),([12,16],[12,16]),([17,12],[17]),([18],[18]),([19,18],[18,19]),([20,18,18],[18,20]),([21],[21]),([21],[21]),([23,21],[21,23]),([22,24,21],[21,22,24]),([25,21],[21,25]),([26,21],[21,26]),([21],[21]),([28,21],[21,28]),([27,29,21,21],[21,27,29]),([30,21],[21,30]),([21,31,18],[18,21,31]),([18,32],[18,32])])
def qm_.B4:List Nat:=[0,0,2,0,15,31,63,127,255,511,1023,2047,4095,8191,16383,32767,65535,131071,262143,524287,1048575,2097151,4194303,4194303,12582911,33554431,67108863,134217727,4194303,272629759,1073741823,2147483647,4294967295,8589934591]
theorem qm_.tab4:rtab .any (opsOf Try.f154 4)=qm_.T4:=by kernel_rfl
theorem qm_.bits4:waitsOk qm_.T4.2 qm_.B4=true:=by kernel_rfl
abbrev qm_.m0:Array Bool:=#[tT,fF,fF,fF,fF,fF,fF,fF,fF,fF,fF,fF,fF,fF,fF,fF,fF,fF,fF,fF,fF,fF,fF,fF,fF,fF,fF,fF,fF,fF,fF,fF,fF,fF]
abbrev qm_.m1:Array Bool:=#[tT,tT,fF,fF,fF,fF,fF,fF,fF,fF,fF,fF,fF,fF,fF,fF,fF,fF,fF,fF,fF,fF,fF,fF,fF,fF,fF,fF,fF,fF,fF,fF,fF,fF]
abbrev qm_.m2:Array Bool:=#[tT,tT,fF,tT,fF,fF,fF,fF,fF,fF,fF,fF,fF,fF,fF,fF,fF,fF,fF,fF,fF,fF,fF,fF,fF,fF,fF,fF,fF,fF,fF,fF,fF,fF]
abbrev qm_.m3:Array Bool:=#[tT,tT,tT,tT,fF,fF,fF,fF,fF,fF,fF,fF,fF,fF,fF,fF,fF,fF,fF,fF,fF,fF,fF,fF,fF,fF,fF,fF,fF,fF,fF,fF,fF,fF]
abbrev qm_.m4:Array Bool:=#[tT,tT,tT,tT,tT,fF,fF,fF,fF,fF,fF,fF,fF,fF,fF,fF,fF,fF,fF,fF,fF,fF,fF,fF,fF,fF,fF,fF,fF,fF,fF,fF,fF,fF]
abbrev qm_.m5:Array Bool:=#[tT,tT,tT,tT,tT,tT,fF,fF,fF,fF,fF,fF,fF,fF,fF,fF,fF,fF,fF,fF,fF,fF,fF,fF,fF,fF,fF,fF,fF,fF,fF,fF,fF,fF]
abbrev qm_.m6:Array Bool:=#[tT,tT,tT,tT,tT,tT,tT,fF,fF,fF,fF,fF,fF,fF,fF,fF,fF,fF,fF,fF,fF,fF,fF,fF,fF,fF,fF,fF,fF,fF,fF,fF,fF,fF]
abbrev qm_.m7:Array Bool:=#[tT,tT,tT,tT,tT,tT,tT,tT,fF,fF,fF,fF,fF,fF,fF,fF,fF,fF,fF,fF,fF,fF,fF,fF,fF,fF,fF,fF,fF,fF,fF,fF,fF,fF]
abbrev qm_.m8:Array Bool:=#[tT,tT,tT,tT,tT,tT,tT,tT,tT,fF,fF,fF,fF,fF,fF,fF,fF,fF,fF,fF,fF,fF,fF,fF,fF,fF,fF,fF,fF,fF,fF,fF,fF,fF]
abbrev qm_.m9:Array Bool:=#[tT,tT,tT,tT,tT,tT,tT,tT,tT,tT,fF,fF,fF,fF,fF,fF,fF,fF,fF,fF,fF,fF,fF,fF,fF,fF,fF,fF,fF,fF,fF,fF,fF,fF]
abbrev qm_.m10:Array Bool:=#[tT,tT,tT,tT,tT,tT,tT,tT,tT,tT,tT,fF,fF,fF,fF,fF,fF,fF,fF,fF,fF,fF,fF,fF,fF,fF,fF,fF,fF,fF,fF,fF,fF,fF]
abbrev qm_.m11:Array Bool:=#[tT,tT,tT,tT,tT,tT,tT,tT,tT,tT,tT,tT,fF,fF,fF,fF,fF,fF,fF,fF,fF,fF,fF,fF,fF,fF,fF,fF,fF,fF,fF,fF,fF,fF]
abbrev qm_.m12:Array Bool:=#[tT,tT,tT,tT,tT,tT,tT,tT,tT,tT,tT,tT,tT,fF,fF,fF,fF,fF,fF,fF,fF,fF,fF,fF,fF,fF,fF,fF,fF,fF,fF,fF,fF,fF]
abbrev qm_.m13:Array Bool:=#[tT,tT,tT,tT,tT,tT,tT,tT,tT,tT,tT,tT,tT,tT,fF,fF,fF,fF,fF,fF,fF,fF,fF,fF,fF,fF,fF,fF,fF,fF,fF,fF,fF,fF]
abbrev qm_.m14:Array Bool:=#[tT,tT,tT,tT,tT,tT,tT,tT,tT,tT,tT,tT,tT,tT,tT,fF,fF,fF,fF,fF,fF,fF,fF,fF,fF,fF,fF,fF,fF,fF,fF,fF,fF,fF]
abbrev qm_.m15:Array Bool:=#[tT,tT,tT,tT,tT,tT,tT,tT,tT,tT,tT,tT,tT,tT,tT,tT,fF,fF,fF,fF,fF,fF,fF,fF,fF,fF,fF,fF,fF,fF,fF,fF,fF,fF]
abbrev qm_.m16:Array Bool:=#[tT,tT,tT,tT,tT,tT,tT,tT,tT,tT,tT,tT,tT,tT,tT,tT,tT,fF,fF,fF,fF,fF,fF,fF,fF,fF,fF,fF,fF,fF,fF,fF,fF,fF]
abbrev qm_.m17:Array Bool:=#[tT,tT,tT,tT,tT,tT,tT,tT,tT,tT,tT,tT,tT,tT,tT,tT,tT,tT,fF,fF,fF,fF,fF,fF,fF,fF,fF,fF,fF,fF,fF,fF,fF,fF]
abbrev qm_.m18:Array Bool:=#[tT,tT,tT,tT,tT,tT,tT,tT,tT,tT,tT,tT,tT,tT,tT,tT,tT,tT,tT,fF,fF,fF,fF,fF,fF,fF,fF,fF,fF,fF,fF,fF,fF,fF]
abbrev qm_.m19:Array Bool:=#[tT,tT,tT,tT,tT,tT,tT,tT,tT,tT,tT,tT,tT,tT,tT,tT,tT,tT,tT,tT,fF,fF,fF,fF,fF,fF,fF,fF,fF,fF,fF,fF,fF,fF]
abbrev qm_.m20:Array Bool:=#[tT,tT,tT,tT,tT,tT,tT,tT,tT,tT,tT,tT,tT,tT,tT,tT,tT,tT,tT,tT,tT,fF,fF,fF,fF,fF,fF,fF,fF,fF,fF,fF,fF,fF]
abbrev qm_.m21:Array Bool:=#[tT,tT,tT,tT,tT,tT,tT,tT,tT,tT,tT,tT,tT,tT,tT,tT,tT,tT,tT,tT,tT,tT,fF,fF,fF,fF,fF,fF,fF,fF,fF,fF,fF,fF]
abbrev qm_.m22:Array Bool:=#[tT,tT,tT,tT,tT,tT,tT,tT,tT,tT,tT,tT,tT,tT,tT,tT,tT,tT,tT,tT,tT,tT,tT,fF,fF,fF,fF,fF,fF,fF,fF,fF,fF,fF]
abbrev qm_.m23:Array Bool:=#[tT,tT,tT,tT,tT,tT,tT,tT,tT,tT,tT,tT,tT,tT,tT,tT,tT,tT,tT,tT,tT,tT,tT,tT,fF,fF,fF,fF,fF,fF,fF,fF,fF,fF]
abbrev qm_.m24:Array Bool:=#[tT,tT,tT,tT,tT,tT,tT,tT,tT,tT,tT,tT,tT,tT,tT,tT,tT,tT,tT,tT,tT,tT,tT,tT,tT,fF,fF,fF,fF,fF,fF,fF,fF,fF]
abbrev qm_.m25:Array Bool:=#[tT,tT,tT,tT,tT,tT,tT,tT,tT,tT,tT,tT,tT,tT,tT,tT,tT,tT,tT,tT,tT,tT,tT,tT,tT,tT,fF,fF,fF,fF,fF,fF,fF,fF]
abbrev qm_.m26:Array Bool:=#[tT,tT,tT,tT,tT,tT,tT,tT,tT,tT,tT,tT,tT,tT,tT,tT,tT,tT,tT,tT,tT,tT,tT,tT,tT,tT,tT,fF,fF,fF,fF,fF,fF,fF]
abbrev qm_.m27:Array Bool:=#[tT,tT,tT,tT,tT,tT,tT,tT,tT,tT,tT,tT,tT,tT,tT,tT,tT,tT,tT,tT,tT,tT,tT,tT,tT,tT,tT,fF,tT,fF,fF,fF,fF,fF]
abbrev qm_.m28:Array Bool:=#[tT,tT,tT,tT,tT,tT,tT,tT,tT,tT,tT,tT,tT,tT,tT,tT,tT,tT,tT,tT,tT,tT,tT,tT,tT,tT,tT,tT,tT,fF,fF,fF,fF,fF]
abbrev qm_.m29:Array Bool:=#[tT,tT,tT,tT,tT,tT,tT,tT,tT,tT,tT,tT,tT,tT,tT,tT,tT,tT,tT,tT,tT,tT,tT,tT,tT,tT,tT,tT,tT,tT,fF,fF,fF,fF]
abbrev qm_.m30:Array Bool:=#[tT,tT,tT,tT,tT,tT,tT,tT,tT,tT,tT,tT,tT,tT,tT,tT,tT,tT,tT,tT,tT,tT,tT,tT,tT,tT,tT,tT,tT,tT,tT,fF,fF,fF]
abbrev qm_.m31:Array Bool:=#[tT,tT,tT,tT,tT,tT,tT,tT,tT,tT,tT,tT,tT,tT,tT,tT,tT,tT,tT,tT,tT,tT,tT,tT,tT,tT,tT,tT,tT,tT,tT,tT,fF,fF]
abbrev qm_.m32:Array Bool:=#[tT,tT,tT,tT,tT,tT,tT,tT,tT,tT,tT,tT,tT,tT,tT,tT,tT,tT,tT,tT,tT,tT,tT,tT,tT,tT,tT,tT,tT,tT,tT,tT,tT,fF]
abbrev qm_.m33:Array Bool:=#[tT,tT,tT,tT,tT,tT,tT,tT,tT,tT,tT,tT,tT,tT,tT,tT,tT,tT,tT,tT,tT,tT,tT,tT,tT,tT,tT,tT,tT,tT,tT,tT,tT,tT]
abbrev qm_.mz:Array Bool:=#[fF,fF,fF,fF,fF,fF,fF,fF,fF,fF,fF,fF,fF,fF,fF,fF,fF,fF,fF,fF,fF,fF,fF,fF,fF,fF,fF,fF,fF,fF,fF,fF,fF,fF]
set_option maxHeartbeats 16000000 in
set_option maxRecDepth 100000 in
theorem qm_.calls (k:Nat) (a0:Int) (a1:Int) (A2:Option Addr) (c2:Nat) (l2:List (S79)) (r:Bool) (w:World) (hr2:Kd.C k79 w A2 l2.length l2) (hc2:l2.length≤c2) (h:qm_.f k a0 a1 l2=some r) :
  Calls Try.prog 154 #[.int .i64 a0,.int .i64 a1,.slice A2 l2.length c2] w fun e w'=>e=.returned (.bool r)∧Below w.heap.size w w':=by
 have hu79:=Try.underlying79
 have hu77:=Try.underlying77
 have HR2:=aK hr2
 clear hr2
 have HB:=aK (Below.refl w.heap.size w)
 have H:(qm_.l0 k a0 a1 l2 l2 (l2.length:Int) 0)=some r:=h
 clear h
 have H':=aK H
 clear H
 go_enter Try.func154,Try.ntmps154
 go_wp2
 go_loopg [11] k (fun kq v11 w'=>∃ (x:Int),v11=.int .i64 x∧Aside0 (qm_.l0 kq a0 a1 l2 l2 (l2.length:Int) x=some r)∧Aside0 (kq≤k)∧Aside0 (Below w.heap.size w w'))
 case atStart=>exact ⟨0,rfl,H',⟨Nat.le_refl _⟩,HB⟩
 case round =>
  clear H' HB
  obtain ⟨x,rfl,HA,HK1,HB⟩:=hrel
  cases gk with
  | zero=>exact absurd HA.out (by simp [qm_.l0])
  | succ k1 =>
   have H:=HA.out
   clear HA
   simp only [qm_.l0] at H
   by_cases c4:x<(l2.length:Int)
   ·rw [if_pos c4] at H
    by_cases c5:0≤x
    ·rw [if_pos c5,if_pos c4] at H
     obtain ⟨ad,rfl,x0,x1,x2⟩:=at_T79 (Kd.qd1_ HR2.out HB.out) x c5 c4
     have AX:=aK (fun (j:Int) (h0:0≤j) (h1:j<(l2.length:Int))=>at_T79 HR2.out j h0 h1)
     obtain ⟨X,hX⟩:∃ X,X=rd_T79 l2 x:=⟨_,rfl⟩
     rw [← hX] at H x0 x1 x2
     obtain ⟨b1,A70,H⟩:=Option.bind_eq_some_iff.mp H
     have A7:=aK A70
     have HL:(b1=false∧r=false)∨(b1=true∧∃ b2,qf1_.f k1 X.f1.f0 X.f1.f1=some b2∧((b2=false∧r=false)∨(b2=true∧((X.f1.f0=0∧r=false)∨(X.f1.f0≠0∧((0<x∧∃ j:Int,j=wrap64 (x - 1)∧0≤j∧j<(l2.length:Int)∧∃ tc,qt2_.f (rd_T79 l2 j).f0 X.f0=some tc∧((0≤tc∧r=false)∨(¬ 0≤tc∧qm_.l0 k1 a0 a1 l2 l2 (l2.length:Int) (wrap64 (x+1))=some r)))∨(¬ 0<x∧qm_.l0 k1 a0 a1 l2 l2 (l2.length:Int) (wrap64 (x+1))=some r))))))):=by
      cases b1 with
      | false=>left;rw [if_neg (by decide)] at H;exact ⟨rfl,(Option.some.inj H).symm⟩
      | true =>
       right
       rw [if_pos rfl] at H
       obtain ⟨b2,A9,H⟩:=Option.bind_eq_some_iff.mp H
       refine ⟨rfl,b2,A9,?_⟩
       cases b2 with
       | false=>left;rw [if_neg (by decide)] at H;exact ⟨rfl,(Option.some.inj H).symm⟩
       | true =>
        right
        rw [if_pos rfl] at H
        refine ⟨rfl,?_⟩
        by_cases z:X.f1.f0=0
        ·left;rw [if_pos z] at H;exact ⟨z,(Option.some.inj H).symm⟩
        ·right
         rw [if_neg z] at H
         refine ⟨z,?_⟩
         by_cases y:0<x
         ·left
          rw [if_pos y] at H
          by_cases y0:0≤wrap64 (x - 1)
          ·rw [if_pos y0] at H
           by_cases y1:wrap64 (x - 1)<(l2.length:Int)
           ·rw [if_pos y1] at H
            obtain ⟨tc,A,H⟩:=Option.bind_eq_some_iff.mp H
            refine ⟨y,_,rfl,y0,y1,tc,A,?_⟩
            by_cases q:0≤tc
            ·left;rw [if_pos q] at H;exact ⟨q,(Option.some.inj H).symm⟩
            ·right;rw [if_neg q] at H;exact ⟨q,H⟩
           ·rw [if_neg y1] at H;cases H
          ·rw [if_neg y0] at H;cases H
         ·right;rw [if_neg y] at H;exact ⟨y,H⟩
     replace HL:=aK HL
     clear H A70 hX
     go_wp2
     generalize hW:World.alloc _ _=w5
     have BK:=aK (show w5.heap[wr.heap.size]?=some (.cells #[.string X.f0,.int .i64 X.f1.f0,.int .i64 X.f1.f1] 79 (0,0)) from by rw [← hW];exact new_at rfl)
     have HBW:=aK (show Below w.heap.size w w5 from by rw [← hW];exact qb_ HB.out _)
     clear hW x0 x1 x2 HB
     obtain ⟨gb,hgb⟩:∃ g,g=wr.heap.size:=⟨_,rfl⟩
     rw [← hgb] at BK ⊢
     clear hgb
     rcases HL.out with ⟨rfl,rfl⟩|⟨rfl,b2,A90,⟨rfl,rfl⟩|⟨rfl,⟨z,rfl⟩|⟨z,⟨y,j,hj,y0,y1,tc,A210,⟨q,rfl⟩|⟨q,HN⟩⟩|⟨y,HN⟩⟩⟩⟩
     all_goals
      clear HL
      try (have A9:=aK A90;clear A90)
      try (have HN':=aK HN;clear HN)
      try (have A21:=aK A210;clear A210)
      try (have zb:(X.f1.f0==0)=true:=beq_iff_eq.2 z)
      try (have zb:(X.f1.f0==0)=false:=beq_eq_false_iff_ne.2 z)
      try (have yb:decide (0<x)=true:=decide_eq_true y)
      try (have yb:decide (0<x)=false:=decide_eq_false_iff_not.2 (Int.not_lt.2 y))
      try (have qb:decide (0≤tc)=true:=decide_eq_true q)
      try (have qb:decide (0≤tc)=false:=decide_eq_false_iff_not.2 (Int.not_le.2 q))
      try clear z
      try clear y
      try clear q
      try (obtain ⟨ad',e',y_0,_,_⟩:=AX.out j y0 y1;cases e';obtain ⟨Y,hY⟩:∃ Y,Y=rd_T79 l2 j:=⟨_,rfl⟩;rw [← hY] at y_0 A21;have PY:=aK ((HBW.out.cell (World.block_lt_of_cell? w _ y_0)).trans y_0);clear hY y_0;have hj2:wrap64 (x - 1)=j:=hj.symm;clear hj)
      clear AX
      (first
       | refine start_ (n:=34) (S:=fun w'=>w'.cell? ⟨gb,0,none⟩=some (.string X.f0)∧w'.cell? ⟨gb,1,none⟩=some (.int .i64 X.f1.f0)∧w'.cell? ⟨gb,2,none⟩=some (.int .i64 X.f1.f1)∧w'.cell? (ad.add (j.toNat*3))=some (.string Y.f0)) (ds:=[]) qm_.mz (by kernel_rfl) rfl rfl ⟨(qe_ BK.out 0).trans rfl,(qe_ BK.out 1).trans rfl,(qe_ BK.out 2).trans rfl,PY.out⟩ (fun hHeld=>?_)
       | refine start_ (n:=34) (S:=fun w'=>w'.cell? ⟨gb,0,none⟩=some (.string X.f0)∧w'.cell? ⟨gb,1,none⟩=some (.int .i64 X.f1.f0)∧w'.cell? ⟨gb,2,none⟩=some (.int .i64 X.f1.f1)) (ds:=[]) qm_.mz (by kernel_rfl) rfl rfl ⟨(qe_ BK.out 0).trans rfl,(qe_ BK.out 1).trans rfl,(qe_ BK.out 2).trans rfl⟩ (fun hHeld=>?_))
      refine with_tabW qm_.tab4 qm_.bits4 (fun HT_ HW_=>?_)
      replace BK:=aK (qj_ BK.out)
      have HBR:=aK (qc_ (Below.refl w5.heap.size w5))
      generalize w5.drew=w6 at BK HBR hHeld ⊢
     all_goals (refine pure_ (i:=0) (N:=some 16) (v:=?_) (a':=?_) qm_.m0 rfl rfl (any_of HT_.out (by kernel_rfl)) (fun _ _ _ h=>h) (Or.inl ⟨?_,?_⟩) ?_ ?_;rotate_left;(· rfl);(· intro w';go_simp;with_reducible rfl);rotate_left;(· simp only [Act.put,List.setIfInBounds_toArray,List.set_cons_zero,List.set_cons_succ,i64_w,i32_w];rfl))
     all_goals (refine pure_ (i:=1) (N:=some 17) (v:=?_) (a':=?_) qm_.m1 rfl rfl (any_of HT_.out (by kernel_rfl)) (fun _ _ _ h=>h) (Or.inl ⟨?_,?_⟩) ?_ ?_;rotate_left;(· rfl);(· intro w';go_simp;with_reducible rfl);rotate_left;(· simp only [Act.put,List.setIfInBounds_toArray,List.set_cons_zero,List.set_cons_succ,i64_w,i32_w];rfl))
     all_goals (refine pure_ (i:=3) (N:=some 19) (v:=?_) (a':=?_) qm_.m2 rfl rfl (any_of HT_.out (by kernel_rfl)) (fun _ _ _ h=>h) (Or.inl ⟨?_,?_⟩) ?_ ?_;rotate_left;(· rfl);(· intro w';go_simp;with_reducible rfl);rotate_left;(· simp only [Act.put,List.setIfInBounds_toArray,List.set_cons_zero,List.set_cons_succ,i64_w,i32_w];rfl))
     all_goals (refine take_ (i:=2) (N:=some 18) (v:=?_) (a':=?_) qm_.m3 rfl rfl (take_ofW HT_.out HW_.out (by kernel_rfl)) (fun _ _ _ h=>h) (Or.inl ⟨?_,?_⟩) hHeld ?_ ?_;rotate_left;(· rfl);(· (first|rintro w' ⟨s0,s1,s2,s3⟩|rintro w' ⟨s0,s1,s2⟩);go_simp;with_reducible rfl);rotate_left;(· simp only [Act.put,List.setIfInBounds_toArray,List.set_cons_zero,List.set_cons_succ,i64_w,i32_w];rfl))
     all_goals (refine one_ (i:=4) (N:=some 20) qm_.m4 rfl rfl (one_of HT_.out (by kernel_rfl)) (by decide) (fun K hK=>?_);refine goes_ Try.func139 (by kernel_rfl) rfl #[.int .i64 a0,.string X.f0,.int .i64 a1] ?_ rfl rfl ?_ ?_;(· rfl);(· (try simp only [List.map_toArray,List.map_cons,List.map_nil]);first|done|rfl);(with_reducible refine (qu1_.calls k1 a0 X.f0 a1 _ _ A7.out).mono ?_);rintro e w' ⟨rfl,⟨nd,rfl⟩⟩;refine ⟨_,rfl,?_⟩;refine hK.out _ _ ?_ (fun hHeld=>?_);(· (first|exact ⟨(qe_ BK.out 0).trans rfl,(qe_ BK.out 1).trans rfl,(qe_ BK.out 2).trans rfl,qq_ HBR.out PY.out⟩|exact ⟨(qe_ BK.out 0).trans rfl,(qe_ BK.out 1).trans rfl,(qe_ BK.out 2).trans rfl⟩));clear hK K;refine norm_ (a':=?_) ?_ ?_;rotate_left;(· show Act.put _ (some 20) _=_;simp only [Act.put,List.setIfInBounds_toArray,List.set_cons_zero,List.set_cons_succ,i64_w,i32_w];rfl))
     all_goals (refine pure_ (i:=5) (N:=some 21) (v:=?_) (a':=?_) qm_.m5 rfl rfl (any_of HT_.out (by kernel_rfl)) (fun _ _ _ h=>h) (Or.inl ⟨?_,?_⟩) ?_ ?_;rotate_left;(· rfl);(· intro w';go_simp;with_reducible rfl);rotate_left;(· simp only [Act.put,List.setIfInBounds_toArray,List.set_cons_zero,List.set_cons_succ,i64_w,i32_w];rfl))
     all_goals (refine pure_ (i:=6) (N:=some 22) (v:=?_) (a':=?_) qm_.m6 rfl rfl (any_of HT_.out (by kernel_rfl)) (fun _ _ _ h=>h) (Or.inl ⟨?_,?_⟩) ?_ ?_;rotate_left;(· rfl);(· intro w';go_simp;with_reducible rfl);rotate_left;(· simp only [Act.put,List.setIfInBounds_toArray,List.set_cons_zero,List.set_cons_succ,i64_w,i32_w];rfl))
     all_goals (first
      | (refine pure_ (i:=7) (N:=some 23) (v:=undef) (a':=?_) qm_.m7 rfl rfl (any_of HT_.out (by kernel_rfl)) (fun _ _ _ h=>h) (Or.inr ⟨?_,rfl⟩) ?_ ?_;(· rfl);rotate_left;(· simp only [Act.put,List.setIfInBounds_toArray,List.set_cons_zero,List.set_cons_succ,i64_w,i32_w];rfl))
      | (refine pure_ (i:=7) (N:=some 23) (v:=?_) (a':=?_) qm_.m7 rfl rfl (any_of HT_.out (by kernel_rfl)) (fun _ _ _ h=>h) (Or.inl ⟨?_,?_⟩) ?_ ?_;rotate_left;(· rfl);(· intro w';go_simp;with_reducible rfl);rotate_left;(· simp only [Act.put,List.setIfInBounds_toArray,List.set_cons_zero,List.set_cons_succ,i64_w,i32_w];rfl)))
     all_goals (first
      | (refine pure_ (i:=8) (N:=some 24) (v:=undef) (a':=?_) qm_.m8 rfl rfl (any_of HT_.out (by kernel_rfl)) (fun _ _ _ h=>h) (Or.inr ⟨?_,rfl⟩) ?_ ?_;(· rfl);rotate_left;(· simp only [Act.put,List.setIfInBounds_toArray,List.set_cons_zero,List.set_cons_succ,i64_w,i32_w];rfl))
      | (refine take_ (i:=8) (N:=some 24) (v:=?_) (a':=?_) qm_.m8 rfl rfl (take_ofW HT_.out HW_.out (by kernel_rfl)) (fun _ _ _ h=>h) (Or.inl ⟨?_,?_⟩) hHeld ?_ ?_;rotate_left;(· rfl);(· (first|rintro w' ⟨s0,s1,s2,s3⟩|rintro w' ⟨s0,s1,s2⟩);go_simp;with_reducible rfl);rotate_left;(· simp only [Act.put,List.setIfInBounds_toArray,List.set_cons_zero,List.set_cons_succ,i64_w,i32_w];rfl)))
     all_goals (first
      | (refine pure_ (i:=9) (N:=some 25) (v:=undef) (a':=?_) qm_.m9 rfl rfl (any_of HT_.out (by kernel_rfl)) (fun _ _ _ h=>h) (Or.inr ⟨?_,rfl⟩) ?_ ?_;(· rfl);rotate_left;(· simp only [Act.put,List.setIfInBounds_toArray,List.set_cons_zero,List.set_cons_succ,i64_w,i32_w];rfl))
      | (refine one_ (i:=9) (N:=some 25) qm_.m9 rfl rfl (one_of HT_.out (by kernel_rfl)) (by decide) (fun K hK=>?_);refine goes_ Try.func206 (by kernel_rfl) rfl #[.agg #[.int .i64 X.f1.f0,.int .i64 X.f1.f1]] ?_ rfl rfl ?_ ?_;(· rfl);(· (try simp only [List.map_toArray,List.map_cons,List.map_nil]);first|done|rfl);(with_reducible refine (qf1_.calls k1 X.f1.f0 X.f1.f1 _ _ A9.out).mono ?_);rintro e w' ⟨rfl,hb⟩;refine ⟨_,rfl,?_⟩;have n0_:=aK (qk_ (show _=some (.cells #[.string X.f0,.int .i64 X.f1.f0,.int .i64 X.f1.f1] 79 (0,0)) from by (with_reducible repeat (first|refine qg_ ?_ _|refine qj_ ?_));exact BK.out) hb);have n1_:=aK (qh_ (by repeat (first|(with_reducible exact HBR.out)|(with_reducible apply qa_)|(with_reducible apply qc_))) hb);clear BK HBR;have BK:=n0_;have HBR:=n1_;clear n0_ n1_ hb;refine hK.out _ _ ?_ (fun hHeld=>?_);(· (first|exact ⟨(qe_ BK.out 0).trans rfl,(qe_ BK.out 1).trans rfl,(qe_ BK.out 2).trans rfl,qq_ HBR.out PY.out⟩|exact ⟨(qe_ BK.out 0).trans rfl,(qe_ BK.out 1).trans rfl,(qe_ BK.out 2).trans rfl⟩));clear hK K;refine norm_ (a':=?_) ?_ ?_;rotate_left;(· show Act.put _ (some 25) _=_;simp only [Act.put,List.setIfInBounds_toArray,List.set_cons_zero,List.set_cons_succ,i64_w,i32_w];rfl)))
     all_goals (first
      | (refine pure_ (i:=10) (N:=some 26) (v:=undef) (a':=?_) qm_.m10 rfl rfl (any_of HT_.out (by kernel_rfl)) (fun _ _ _ h=>h) (Or.inr ⟨?_,rfl⟩) ?_ ?_;(· rfl);rotate_left;(· simp only [Act.put,List.setIfInBounds_toArray,List.set_cons_zero,List.set_cons_succ,i64_w,i32_w];rfl))
      | (refine pure_ (i:=10) (N:=some 26) (v:=?_) (a':=?_) qm_.m10 rfl rfl (any_of HT_.out (by kernel_rfl)) (fun _ _ _ h=>h) (Or.inl ⟨?_,?_⟩) ?_ ?_;rotate_left;(· rfl);(· intro w';go_simp;with_reducible rfl);rotate_left;(· simp only [Act.put,List.setIfInBounds_toArray,List.set_cons_zero,List.set_cons_succ,i64_w,i32_w];rfl)))
     all_goals (refine pure_ (i:=11) (N:=some 27) (v:=?_) (a':=?_) qm_.m11 rfl rfl (any_of HT_.out (by kernel_rfl)) (fun _ _ _ h=>h) (Or.inl ⟨?_,?_⟩) ?_ ?_;rotate_left;(· rfl);(· intro w';go_simp;with_reducible rfl);rotate_left;(· simp only [Act.put,List.setIfInBounds_toArray,List.set_cons_zero,List.set_cons_succ,i64_w,i32_w];rfl))
     all_goals (refine pure_ (i:=12) (N:=some 28) (v:=?_) (a':=?_) qm_.m12 rfl rfl (any_of HT_.out (by kernel_rfl)) (fun _ _ _ h=>h) (Or.inl ⟨?_,?_⟩) ?_ ?_;rotate_left;(· rfl);(· intro w';go_simp;with_reducible rfl);rotate_left;(· simp only [Act.put,List.setIfInBounds_toArray,List.set_cons_zero,List.set_cons_succ,i64_w,i32_w];rfl))
     all_goals (first
      | (refine pure_ (i:=13) (N:=some 29) (v:=undef) (a':=?_) qm_.m13 rfl rfl (any_of HT_.out (by kernel_rfl)) (fun _ _ _ h=>h) (Or.inr ⟨?_,rfl⟩) ?_ ?_;(· rfl);rotate_left;(· simp only [Act.put,List.setIfInBounds_toArray,List.set_cons_zero,List.set_cons_succ,i64_w,i32_w];rfl))
      | (refine pure_ (i:=13) (N:=some 29) (v:=?_) (a':=?_) qm_.m13 rfl rfl (any_of HT_.out (by kernel_rfl)) (fun _ _ _ h=>h) (Or.inl ⟨?_,?_⟩) ?_ ?_;rotate_left;(· rfl);(· intro w';go_simp;with_reducible rfl);rotate_left;(· simp only [Act.put,List.setIfInBounds_toArray,List.set_cons_zero,List.set_cons_succ,i64_w,i32_w];rfl)))
     all_goals (first
      | (refine pure_ (i:=14) (N:=some 30) (v:=undef) (a':=?_) qm_.m14 rfl rfl (any_of HT_.out (by kernel_rfl)) (fun _ _ _ h=>h) (Or.inr ⟨?_,rfl⟩) ?_ ?_;(· rfl);rotate_left;(· simp only [Act.put,List.setIfInBounds_toArray,List.set_cons_zero,List.set_cons_succ,i64_w,i32_w];rfl))
      | (refine pure_ (i:=14) (N:=some 30) (v:=?_) (a':=?_) qm_.m14 rfl rfl (any_of HT_.out (by kernel_rfl)) (fun _ _ _ h=>h) (Or.inl ⟨?_,?_⟩) ?_ ?_;rotate_left;(· rfl);(· intro w';go_simp;with_reducible rfl);rotate_left;(· simp only [Act.put,List.setIfInBounds_toArray,List.set_cons_zero,List.set_cons_succ,i64_w,i32_w];rfl)))
     all_goals (first
      | (refine pure_ (i:=15) (N:=some 31) (v:=undef) (a':=?_) qm_.m15 rfl rfl (any_of HT_.out (by kernel_rfl)) (fun _ _ _ h=>h) (Or.inr ⟨?_,rfl⟩) ?_ ?_;(· rfl);rotate_left;(· simp only [Act.put,List.setIfInBounds_toArray,List.set_cons_zero,List.set_cons_succ,i64_w,i32_w];rfl))
      | (refine take_ (i:=15) (N:=some 31) (v:=?_) (a':=?_) qm_.m15 rfl rfl (take_ofW HT_.out HW_.out (by kernel_rfl)) (fun _ _ _ h=>h) (Or.inl ⟨?_,?_⟩) hHeld ?_ ?_;rotate_left;(· rfl);(· (first|rintro w' ⟨s0,s1,s2,s3⟩|rintro w' ⟨s0,s1,s2⟩);go_simp;with_reducible rfl);rotate_left;(· simp only [Act.put,List.setIfInBounds_toArray,List.set_cons_zero,List.set_cons_succ,i64_w,i32_w];rfl)))
     all_goals (first
      | (refine pure_ (i:=16) (N:=some 32) (v:=undef) (a':=?_) qm_.m16 rfl rfl (any_of HT_.out (by kernel_rfl)) (fun _ _ _ h=>h) (Or.inr ⟨?_,rfl⟩) ?_ ?_;(· rfl);rotate_left;(· simp only [Act.put,List.setIfInBounds_toArray,List.set_cons_zero,List.set_cons_succ,i64_w,i32_w];rfl))
      | (refine pure_ (i:=16) (N:=some 32) (v:=?_) (a':=?_) qm_.m16 rfl rfl (any_of HT_.out (by kernel_rfl)) (fun _ _ _ h=>h) (Or.inl ⟨?_,?_⟩) ?_ ?_;rotate_left;(· rfl);(· intro w';go_simp;with_reducible rfl);rotate_left;(· simp only [Act.put,List.setIfInBounds_toArray,List.set_cons_zero,List.set_cons_succ,i64_w,i32_w];rfl)))
     all_goals (refine pure_ (i:=17) (N:=some 33) (v:=?_) (a':=?_) qm_.m17 rfl rfl (any_of HT_.out (by kernel_rfl)) (fun _ _ _ h=>h) (Or.inl ⟨?_,?_⟩) ?_ ?_;rotate_left;(· rfl);(· intro w';go_simp;with_reducible rfl);rotate_left;(· simp only [Act.put,List.setIfInBounds_toArray,List.set_cons_zero,List.set_cons_succ,i64_w,i32_w];rfl))
     all_goals (refine pure_ (i:=18) (N:=some 34) (v:=?_) (a':=?_) qm_.m18 rfl rfl (any_of HT_.out (by kernel_rfl)) (fun _ _ _ h=>h) (Or.inl ⟨?_,?_⟩) ?_ ?_;rotate_left;(· rfl);(· intro w';go_simp;with_reducible rfl);rotate_left;(· simp only [Act.put,List.setIfInBounds_toArray,List.set_cons_zero,List.set_cons_succ,i64_w,i32_w];rfl))
     all_goals (first
      | (refine pure_ (i:=19) (N:=some 35) (v:=undef) (a':=?_) qm_.m19 rfl rfl (any_of HT_.out (by kernel_rfl)) (fun _ _ _ h=>h) (Or.inr ⟨?_,rfl⟩) ?_ ?_;(· rfl);rotate_left;(· simp only [Act.put,List.setIfInBounds_toArray,List.set_cons_zero,List.set_cons_succ,i64_w,i32_w];rfl))
      | (refine pure_ (i:=19) (N:=some 35) (v:=?_) (a':=?_) qm_.m19 rfl rfl (any_of HT_.out (by kernel_rfl)) (fun _ _ _ h=>h) (Or.inl ⟨?_,?_⟩) ?_ ?_;rotate_left;(· rfl);(· intro w';go_simp;with_reducible rfl);rotate_left;(· simp only [Act.put,List.setIfInBounds_toArray,List.set_cons_zero,List.set_cons_succ,i64_w,i32_w];rfl)))
     all_goals (first
      | (refine pure_ (i:=20) (N:=some 36) (v:=undef) (a':=?_) qm_.m20 rfl rfl (any_of HT_.out (by kernel_rfl)) (fun _ _ _ h=>h) (Or.inr ⟨?_,rfl⟩) ?_ ?_;(· rfl);rotate_left;(· simp only [Act.put,List.setIfInBounds_toArray,List.set_cons_zero,List.set_cons_succ,i64_w,i32_w];rfl))
      | (refine pure_ (i:=20) (N:=some 36) (v:=?_) (a':=?_) qm_.m20 rfl rfl (any_of HT_.out (by kernel_rfl)) (fun _ _ _ h=>h) (Or.inl ⟨?_,?_⟩) ?_ ?_;rotate_left;(· rfl);(· intro w';go_simp;with_reducible rfl);rotate_left;(· simp only [Act.put,List.setIfInBounds_toArray,List.set_cons_zero,List.set_cons_succ,i64_w,i32_w];rfl)))
     all_goals (first
      | (refine pure_ (i:=21) (N:=some 37) (v:=undef) (a':=?_) qm_.m21 rfl rfl (any_of HT_.out (by kernel_rfl)) (fun _ _ _ h=>h) (Or.inr ⟨?_,rfl⟩) ?_ ?_;(· rfl);rotate_left;(· simp only [Act.put,List.setIfInBounds_toArray,List.set_cons_zero,List.set_cons_succ,i64_w,i32_w];rfl))
      | (refine pure_ (i:=21) (N:=some 37) (v:=?_) (a':=?_) qm_.m21 rfl rfl (any_of HT_.out (by kernel_rfl)) (fun _ _ _ h=>h) (Or.inl ⟨?_,?_⟩) ?_ ?_;rotate_left;(· rfl);(· intro w';go_simp;with_reducible rfl);rotate_left;(· simp only [Act.put,List.setIfInBounds_toArray,List.set_cons_zero,List.set_cons_succ,i64_w,i32_w];rfl)))
     all_goals (first
      | (refine pure_ (i:=22) (N:=some 38) (v:=undef) (a':=?_) qm_.m22 rfl rfl (any_of HT_.out (by kernel_rfl)) (fun _ _ _ h=>h) (Or.inr ⟨?_,rfl⟩) ?_ ?_;(· rfl);rotate_left;(· simp only [Act.put,List.setIfInBounds_toArray,List.set_cons_zero,List.set_cons_succ,i64_w,i32_w];rfl))
      | (refine pure_ (i:=22) (N:=some 38) (v:=?_) (a':=?_) qm_.m22 rfl rfl (any_of HT_.out (by kernel_rfl)) (fun _ _ _ h=>h) (Or.inl ⟨?_,?_⟩) ?_ ?_;rotate_left;(· rfl);(· intro w';go_simp;with_reducible rfl);rotate_left;(· simp only [Act.put,List.setIfInBounds_toArray,List.set_cons_zero,List.set_cons_succ,i64_w,i32_w];rfl)))
     all_goals (first
      | (refine pure_ (i:=23) (N:=some 39) (v:=undef) (a':=?_) qm_.m23 rfl rfl (any_of HT_.out (by kernel_rfl)) (fun _ _ _ h=>h) (Or.inr ⟨?_,rfl⟩) ?_ ?_;(· rfl);rotate_left;(· simp only [Act.put,List.setIfInBounds_toArray,List.set_cons_zero,List.set_cons_succ,i64_w,i32_w];rfl))
      | (refine pure_ (i:=23) (N:=some 39) (v:=?_) (a':=?_) qm_.m23 rfl rfl (any_of HT_.out (by kernel_rfl)) (fun _ _ _ h=>h) (Or.inl ⟨?_,?_⟩) ?_ ?_;rotate_left;(· rfl);(· intro w';go_simp;with_reducible rfl);rotate_left;(· simp only [Act.put,List.setIfInBounds_toArray,List.set_cons_zero,List.set_cons_succ,i64_w,i32_w];rfl)))
     all_goals (first
      | (refine pure_ (i:=24) (N:=some 40) (v:=undef) (a':=?_) qm_.m24 rfl rfl (any_of HT_.out (by kernel_rfl)) (fun _ _ _ h=>h) (Or.inr ⟨?_,rfl⟩) ?_ ?_;(· rfl);rotate_left;(· simp only [Act.put,List.setIfInBounds_toArray,List.set_cons_zero,List.set_cons_succ,i64_w,i32_w];rfl))
      | (refine pure_ (i:=24) (N:=some 40) (v:=?_) (a':=?_) qm_.m24 rfl rfl (any_of HT_.out (by kernel_rfl)) (fun _ _ _ h=>h) (Or.inl ⟨?_,?_⟩) ?_ ?_;rotate_left;(· rfl);(· intro w';go_simp;with_reducible rfl);rotate_left;(· simp only [Act.put,List.setIfInBounds_toArray,List.set_cons_zero,List.set_cons_succ,i64_w,i32_w];rfl)))
     all_goals (first
      | (refine pure_ (i:=25) (N:=some 41) (v:=undef) (a':=?_) qm_.m25 rfl rfl (any_of HT_.out (by kernel_rfl)) (fun _ _ _ h=>h) (Or.inr ⟨?_,rfl⟩) ?_ ?_;(· rfl);rotate_left;(· simp only [Act.put,List.setIfInBounds_toArray,List.set_cons_zero,List.set_cons_succ,i64_w,i32_w];rfl))
      | (refine pure_ (i:=25) (N:=some 41) (v:=?_) (a':=?_) qm_.m25 rfl rfl (any_of HT_.out (by kernel_rfl)) (fun _ _ _ h=>h) (Or.inl ⟨?_,?_⟩) ?_ ?_;rotate_left;(· rfl);(· intro w';go_simp;with_reducible rfl);rotate_left;(· simp only [Act.put,List.setIfInBounds_toArray,List.set_cons_zero,List.set_cons_succ,i64_w,i32_w];rfl)))
     all_goals (first
      | (refine pure_ (i:=26) (N:=some 42) (v:=undef) (a':=?_) qm_.m26 rfl rfl (any_of HT_.out (by kernel_rfl)) (fun _ _ _ h=>h) (Or.inr ⟨?_,rfl⟩) ?_ ?_;(· rfl);rotate_left;(· simp only [Act.put,List.setIfInBounds_toArray,List.set_cons_zero,List.set_cons_succ,i64_w,i32_w];rfl))
      | (refine pure_ (i:=26) (N:=some 42) (v:=?_) (a':=?_) qm_.m26 rfl rfl (any_of HT_.out (by kernel_rfl)) (fun _ _ _ h=>h) (Or.inl ⟨?_,?_⟩) ?_ ?_;rotate_left;(· rfl);(· intro w';go_simp;with_reducible rfl);rotate_left;(· simp only [Act.put,List.setIfInBounds_toArray,List.set_cons_zero,List.set_cons_succ,i64_w,i32_w];rfl)))
     all_goals (first
      | (refine pure_ (i:=28) (N:=some 44) (v:=undef) (a':=?_) qm_.m27 rfl rfl (any_of HT_.out (by kernel_rfl)) (fun _ _ _ h=>h) (Or.inr ⟨?_,rfl⟩) ?_ ?_;(· rfl);rotate_left;(· simp only [Act.put,List.setIfInBounds_toArray,List.set_cons_zero,List.set_cons_succ,i64_w,i32_w];rfl))
      | (refine pure_ (i:=28) (N:=some 44) (v:=?_) (a':=?_) qm_.m27 rfl rfl (any_of HT_.out (by kernel_rfl)) (fun _ _ _ h=>h) (Or.inl ⟨?_,?_⟩) ?_ ?_;rotate_left;(· rfl);(· intro w';go_simp;with_reducible rfl);rotate_left;(· simp only [Act.put,List.setIfInBounds_toArray,List.set_cons_zero,List.set_cons_succ,i64_w,i32_w];rfl)))
     all_goals (first
      | (refine pure_ (i:=27) (N:=some 43) (v:=undef) (a':=?_) qm_.m28 rfl rfl (any_of HT_.out (by kernel_rfl)) (fun _ _ _ h=>h) (Or.inr ⟨?_,rfl⟩) ?_ ?_;(· rfl);rotate_left;(· simp only [Act.put,List.setIfInBounds_toArray,List.set_cons_zero,List.set_cons_succ,i64_w,i32_w];rfl))
      | (refine take_ (i:=27) (N:=some 43) (v:=?_) (a':=?_) qm_.m28 rfl rfl (take_ofW HT_.out HW_.out (by kernel_rfl)) (fun _ _ _ h=>h) (Or.inl ⟨?_,?_⟩) hHeld ?_ ?_;rotate_left;(· rfl);(· (first|rintro w' ⟨s0,s1,s2,s3⟩|rintro w' ⟨s0,s1,s2⟩);go_simp;with_reducible rfl);rotate_left;(· simp only [Act.put,List.setIfInBounds_toArray,List.set_cons_zero,List.set_cons_succ,i64_w,i32_w];rfl)))
     all_goals (first
      | (refine pure_ (i:=29) (N:=some 45) (v:=undef) (a':=?_) qm_.m29 rfl rfl (any_of HT_.out (by kernel_rfl)) (fun _ _ _ h=>h) (Or.inr ⟨?_,rfl⟩) ?_ ?_;(· rfl);rotate_left;(· simp only [Act.put,List.setIfInBounds_toArray,List.set_cons_zero,List.set_cons_succ,i64_w,i32_w];rfl))
      | (refine take_ (i:=29) (N:=some 45) (v:=?_) (a':=?_) qm_.m29 rfl rfl (take_ofW HT_.out HW_.out (by kernel_rfl)) (fun _ _ _ h=>h) (Or.inl ⟨?_,?_⟩) hHeld ?_ ?_;rotate_left;(· rfl);(· (first|rintro w' ⟨s0,s1,s2,s3⟩|rintro w' ⟨s0,s1,s2⟩);go_simp;with_reducible rfl);rotate_left;(· simp only [Act.put,List.setIfInBounds_toArray,List.set_cons_zero,List.set_cons_succ,i64_w,i32_w];rfl)))
     all_goals (first
      | (refine pure_ (i:=30) (N:=some 46) (v:=undef) (a':=?_) qm_.m30 rfl rfl (any_of HT_.out (by kernel_rfl)) (fun _ _ _ h=>h) (Or.inr ⟨?_,rfl⟩) ?_ ?_;(· rfl);rotate_left;(· simp only [Act.put,List.setIfInBounds_toArray,List.set_cons_zero,List.set_cons_succ,i64_w,i32_w];rfl))
      | (refine one_ (i:=30) (N:=some 46) qm_.m30 rfl rfl (one_of HT_.out (by kernel_rfl)) (by decide) (fun K hK=>?_);refine goes_ Try.func207 (by kernel_rfl) rfl #[.string Y.f0,.string X.f0] ?_ rfl rfl ?_ ?_;(· rfl);(· (try simp only [List.map_toArray,List.map_cons,List.map_nil]);first|done|rfl);(with_reducible refine (qt2_.calls Y.f0 X.f0 tc _ A21.out).mono ?_);rintro e w' ⟨rfl,⟨nd,rfl⟩⟩;refine ⟨_,rfl,?_⟩;refine hK.out _ _ ?_ (fun hHeld=>?_);(· (first|exact ⟨(qe_ BK.out 0).trans rfl,(qe_ BK.out 1).trans rfl,(qe_ BK.out 2).trans rfl,qq_ HBR.out PY.out⟩|exact ⟨(qe_ BK.out 0).trans rfl,(qe_ BK.out 1).trans rfl,(qe_ BK.out 2).trans rfl⟩));clear hK K;refine norm_ (a':=?_) ?_ ?_;rotate_left;(· show Act.put _ (some 46) _=_;simp only [Act.put,List.setIfInBounds_toArray,List.set_cons_zero,List.set_cons_succ,i64_w,i32_w];rfl)))
     all_goals (first
      | (refine pure_ (i:=31) (N:=some 47) (v:=undef) (a':=?_) qm_.m31 rfl rfl (any_of HT_.out (by kernel_rfl)) (fun _ _ _ h=>h) (Or.inr ⟨?_,rfl⟩) ?_ ?_;(· rfl);rotate_left;(· simp only [Act.put,List.setIfInBounds_toArray,List.set_cons_zero,List.set_cons_succ,i64_w,i32_w];rfl))
      | (refine pure_ (i:=31) (N:=some 47) (v:=?_) (a':=?_) qm_.m31 rfl rfl (any_of HT_.out (by kernel_rfl)) (fun _ _ _ h=>h) (Or.inl ⟨?_,?_⟩) ?_ ?_;rotate_left;(· rfl);(· intro w';go_simp;with_reducible rfl);rotate_left;(· simp only [Act.put,List.setIfInBounds_toArray,List.set_cons_zero,List.set_cons_succ,i64_w,i32_w];rfl)))
     all_goals (first
      | (refine pure_ (i:=32) (N:=some 48) (v:=undef) (a':=?_) qm_.m32 rfl rfl (any_of HT_.out (by kernel_rfl)) (fun _ _ _ h=>h) (Or.inr ⟨?_,rfl⟩) ?_ ?_;(· rfl);rotate_left;(· simp only [Act.put,List.setIfInBounds_toArray,List.set_cons_zero,List.set_cons_succ,i64_w,i32_w];rfl))
      | (refine pure_ (i:=32) (N:=some 48) (v:=?_) (a':=?_) qm_.m32 rfl rfl (any_of HT_.out (by kernel_rfl)) (fun _ _ _ h=>h) (Or.inl ⟨?_,?_⟩) ?_ ?_;rotate_left;(· rfl);(· intro w';go_simp;with_reducible rfl);rotate_left;(· simp only [Act.put,List.setIfInBounds_toArray,List.set_cons_zero,List.set_cons_succ,i64_w,i32_w];rfl)))
     all_goals (refine pure_ (i:=33) (N:=some 49) (v:=?_) (a':=?_) qm_.m33 rfl rfl (any_of HT_.out (by kernel_rfl)) (fun _ _ _ h=>h) (Or.inl ⟨?_,?_⟩) ?_ ?_;rotate_left;(· rfl);(· intro w';go_simp;with_reducible rfl);rotate_left;(· simp only [Act.put,List.setIfInBounds_toArray,List.set_cons_zero,List.set_cons_succ,i64_w,i32_w];rfl))
     all_goals
      refine done_ (done_of HT_.out (by kernel_rfl)) ?_
      have HBE:=aK (qh_ HBW.out HBR.out)
     all_goals go_wp2
     all_goals (first
      | (go_ret;exact ⟨rfl,(by repeat (first|(with_reducible exact HBE.out)|(with_reducible apply qa_)|(with_reducible apply qc_)))⟩;done)
      | (go_roundg k1;(case measure=>have:=HK1.out;omega);(case rel=>exact ⟨wrap64 (x+1),rfl,HN',⟨by have:=HK1.out;omega⟩,⟨by repeat (first|(with_reducible exact HBE.out)|(with_reducible apply qa_)|(with_reducible apply qc_))⟩⟩)))
    ·rw [if_neg c5] at H;cases H
   ·rw [if_neg c4] at H
    obtain rfl:=Option.some.inj H
    go_wp2
    go_ret
    exact ⟨rfl,HB.out⟩
end Go.Proofs.Ytaiefdhenikiiaa.Base
namespace Go.Proofs.Ytaiefdhenikiiaa.Base
open Go.RowKit Go.Proofs.YtaiefdhenikiiaaW.PrintWords Go.Proofs.YtaiefdhenikiiaaW.PrintLast Go.Proofs.YtaiefdhenikiiaaW.PrintMore
attribute [local go_sem] max2_int qp1_ max_two min_two max_three min_three max_four min_four Go.Proofs.YtaiefdhenikiiaaZ.qw_   -- for this text's walks alone
set_option linter.unusedVariables false
set_option linter.unusedSimpArgs false
def qz1_.f (k:Nat) (a0_0:Int) (a0_1:Int) (l0_2:List (S79)):Option (Bool):=(qb3_.f a0_0 a0_1).bind fun u7=>(if u7=true then ((qm_.f k a0_0 a0_1 l0_2).bind fun o8=>(some o8)) else (some false))
theorem qz1_.mono:∀ a0 a1 a2 k,LeO (qz1_.f k a0 a1 a2) (qz1_.f (k+1) a0 a1 a2):=by
 intro a0 a1 a2 k
 unfold qz1_.f
 repeat' first
   | (with_reducible exact qm_.mono _ _ _ _)
   | (with_reducible exact LeO.refl _)
   | (with_reducible exact LeO.none _)
   | (with_reducible refine LeO.ite ?_ ?_)
   | (with_reducible refine LeO.bind ?_ (fun _=>?_))
   | exact qm_.mono _ _ _ _
   | exact LeO.none _
   | refine LeO.ite ?_ ?_
   | refine LeO.bind ?_ (fun _=>?_)
set_option maxHeartbeats 8000000 in
set_option maxRecDepth 100000 in
theorem qz1_.calls (k:Nat) (a0_0:Int) (a0_1:Int) (A0_2:Option Addr) (c0_2:Nat) (l0_2:List (S79)) (r:Bool) (w:World) (hr0_2:Kd.C k79 w A0_2 l0_2.length l0_2) (hc0_2:l0_2.length≤c0_2) (h:qz1_.f k a0_0 a0_1 l0_2=some r) :
  Calls Try.prog 83 #[.agg #[.int .i64 a0_0,.int .i64 a0_1,.slice A0_2 l0_2.length c0_2]] w fun e w'=>e=.returned (.bool r)∧Below w.heap.size w w':=by
 have hu38:=Try.underlying38
 have HR0_2:=aK hr0_2
 have HC0_2:=aK hc0_2
 clear hr0_2 hc0_2
 have HB:=aK (Below.refl w.heap.size w)
 have H:((qb3_.f a0_0 a0_1).bind fun u7=>(if u7=true then ((qm_.f k a0_0 a0_1 l0_2).bind fun o8=>(some o8)) else (some false)))=some r:=h
 clear h
 replace H:=Option.bind_eq_some_iff.mp H
 obtain ⟨u7,A20,H⟩:=H
 replace H:(if u7=true then ((qm_.f k a0_0 a0_1 l0_2).bind fun o8=>(some o8)) else (some false))=some r:=H
 have A2:=aK A20
 clear A20
 by_cases c3:u7=true
 ·subst c3
  have H1:((qm_.f k a0_0 a0_1 l0_2).bind fun o8=>(some o8))=some r:=by rw [if_pos rfl] at H;exact H
  clear H
  have H:=H1
  clear H1
  replace H:=Option.bind_eq_some_iff.mp H
  obtain ⟨o8,A40,H⟩:=H
  replace H:(some o8)=some r:=H
  have A4:=aK A40
  clear A40
  obtain rfl:=Option.some.inj H
  go_enter Try.func83,Try.ntmps83
  go_wp2_with (first|((with_reducible refine qt_ (N:=1) rfl ?_);refine qr_ ?hg (N:=1) ?hd (cs:=#[.int .i64 a0_0,.int .i64 a0_1,.slice A0_2 l0_2.length c0_2]) (t:=38) ?hr ?_;(case hd=>rfl);(case hg=>rfl);(case hr=>first|(go_simp;done)|(go_simp;rfl));intro o6 hg w5 hbox hb;have n0_:=aK (qh_ (by repeat (first|(with_reducible first|exact HB.out|apply qb_|apply qa_|apply qc_)|exact HB.out)) hb);have n1_:=aK (hbox);have n2_:=aK ((by rw [hg];exact (ql_ (by repeat (first|(with_reducible first|exact HB.out|apply qb_|apply qa_|apply qc_)|exact HB.out))):w.heap.size≤o6));have n3_:=aK ((by rw [hg];exact (ql_ (by repeat (first|(with_reducible first|exact HB.out|apply qb_|apply qa_|apply qc_)|exact HB.out))):w.heap.size≤o6));clear HB;have HB:=n0_;have l6:=n1_;have GW237:=n2_;have r9:=n3_;clear n0_ n1_ n2_ n3_;clear hb hbox hg;have hcz6_0:w5.cell? ⟨o6,0,none⟩=some (.int .i64 a0_0):=(qe_ l6.out 0).trans rfl;have hcz6_1:w5.cell? ⟨o6,1,none⟩=some (.int .i64 a0_1):=(qe_ l6.out 1).trans rfl;have hcz6_2:w5.cell? ⟨o6,2,none⟩=some (.slice A0_2 l0_2.length c0_2):=(qe_ l6.out 2).trans rfl;have hfz6_0:=qd_ l6.out 0;have hfz6_1:=qd_ l6.out 1;have hfz6_2:=qd_ l6.out 2)|((with_reducible refine qy_ (f:=138) rfl ?_);refine goesL_ (some 7) rfl rfl Try.func138 (by kernel_rfl) rfl #[.int .i64 a0_0,.int .i64 a0_1] rfl (by (try simp only [List.map_toArray,List.map_cons,List.map_nil]);first|done|rfl|(simp only [List.length_drop,List.length_take];rfl)) ?_;(with_reducible refine (qb3_.calls a0_0 a0_1 true _ A2.out).mono ?_);rintro e w' ⟨rfl,⟨nd,rfl⟩⟩;refine ⟨_,rfl,?_⟩)|(go_at_call 154;(with_reducible refine (qm_.calls k a0_0 a0_1 _ _ l0_2 o8 _ ?side1 ?side2 A4.out).mono ?_);(case side1=>repeat (first|exact (Kd.qd1_ HR0_2.out (by repeat (first|(with_reducible first|exact HB.out|apply qb_|apply qa_|apply qc_|refine qi_ ?_ r9.out)|exact HB.out)))|(with_reducible refine Kd.qx2_ ?_ _)|(with_reducible refine Kd.qw2_ ?_ _)|(with_reducible refine Kd.C_drew ?_)));(case side2=>exact HC0_2.out);rintro e w7 ⟨rfl,hb⟩;have n0_:=aK (qk_ (g:=o6) (o:=.cells #[.int .i64 a0_0,.int .i64 a0_1,.slice A0_2 l0_2.length c0_2] 38 (0,0)) (by (with_reducible repeat (first|refine qg_ ?_ _|refine qj_ ?_|refine qf_ ?_ _));exact l6.out) hb);have n1_:=aK (qh_ (by repeat (first|(with_reducible first|exact HB.out|apply qb_|apply qa_|apply qc_|refine qi_ ?_ r9.out)|exact HB.out)) hb);clear l6;clear HB;have l6:=n0_;have HB:=n1_;clear n0_ n1_;(try clear hb);(try clear hb2);(try clear hk);(try clear hi)))
  go_ret
  exact ⟨by first|rfl|(simp [qn_,qo_] <;> rfl)|(simp [*,qn_,qo_] <;> rfl),by repeat (first|(with_reducible first|exact HB.out|apply qb_|apply qa_|apply qc_|refine qi_ ?_ r9.out)|exact HB.out)⟩
 ·replace c3:=Bool.eq_false_iff.mpr c3
  subst c3
  have H1:(some false)=some r:=by rw [if_neg (show ¬ (false=true) by decide)] at H;exact H
  clear H
  have H:=H1
  clear H1
  obtain rfl:=Option.some.inj H
  go_enter Try.func83,Try.ntmps83
  go_wp2_with (first|((with_reducible refine qt_ (N:=1) rfl ?_);refine qr_ ?hg (N:=1) ?hd (cs:=#[.int .i64 a0_0,.int .i64 a0_1,.slice A0_2 l0_2.length c0_2]) (t:=38) ?hr ?_;(case hd=>rfl);(case hg=>rfl);(case hr=>first|(go_simp;done)|(go_simp;rfl));intro o6 hg w8 hbox hb;have n0_:=aK (qh_ (by repeat (first|(with_reducible first|exact HB.out|apply qb_|apply qa_|apply qc_)|exact HB.out)) hb);have n1_:=aK (hbox);have n2_:=aK ((by rw [hg];exact (ql_ (by repeat (first|(with_reducible first|exact HB.out|apply qb_|apply qa_|apply qc_)|exact HB.out))):w.heap.size≤o6));have n3_:=aK ((by rw [hg];exact (ql_ (by repeat (first|(with_reducible first|exact HB.out|apply qb_|apply qa_|apply qc_)|exact HB.out))):w.heap.size≤o6));clear HB;have HB:=n0_;have l6:=n1_;have GW237:=n2_;have r9:=n3_;clear n0_ n1_ n2_ n3_;clear hb hbox hg;have hcz9_0:w8.cell? ⟨o6,0,none⟩=some (.int .i64 a0_0):=(qe_ l6.out 0).trans rfl;have hcz9_1:w8.cell? ⟨o6,1,none⟩=some (.int .i64 a0_1):=(qe_ l6.out 1).trans rfl;have hcz9_2:w8.cell? ⟨o6,2,none⟩=some (.slice A0_2 l0_2.length c0_2):=(qe_ l6.out 2).trans rfl;have hfz9_0:=qd_ l6.out 0;have hfz9_1:=qd_ l6.out 1;have hfz9_2:=qd_ l6.out 2)|((with_reducible refine qy_ (f:=138) rfl ?_);refine goesL_ (some 7) rfl rfl Try.func138 (by kernel_rfl) rfl #[.int .i64 a0_0,.int .i64 a0_1] rfl (by (try simp only [List.map_toArray,List.map_cons,List.map_nil]);first|done|rfl|(simp only [List.length_drop,List.length_take];rfl)) ?_;(with_reducible refine (qb3_.calls a0_0 a0_1 false _ A2.out).mono ?_);rintro e w' ⟨rfl,⟨nd,rfl⟩⟩;refine ⟨_,rfl,?_⟩))
  go_ret
  exact ⟨by first|rfl|(simp [qn_,qo_] <;> rfl)|(simp [*,qn_,qo_] <;> rfl),by repeat (first|(with_reducible first|exact HB.out|apply qb_|apply qa_|apply qc_|refine qi_ ?_ r9.out)|exact HB.out)⟩
end Go.Proofs.Ytaiefdhenikiiaa.Base
namespace Go.Proofs.Ytaiefdhenikiiaa.Base
open Go.RowKit Go.Proofs.YtaiefdhenikiiaaW.PrintWords Go.Proofs.YtaiefdhenikiiaaW.PrintLast Go.Proofs.YtaiefdhenikiiaaW.PrintMore
set_option linter.unusedVariables false
set_option linter.unusedSimpArgs false
theorem enters_at {P:Program} {f:FuncId} {fn:Func} (hf:P.funcs[f]?=some fn) (hname:(fn.name == "runtime.NumGoroutine")=false) (hb:fn.body.isSome=true):∀ args w,(callFunc f args).run P w=.ok (.enter f args) w:=fun args w=>enters_ hf hname (by simpa using hb) args w
def factN:Nat→Nat
  | 0=>1
  | k+1=>factN k*(k+1)
theorem factN_le:∀ k,k≤8→1≤factN k∧factN k≤40320:=by decide
set_option maxHeartbeats 8000000 in
theorem factorial_ (w:World) (k:Nat) (hk:k≤8):Calls Try.prog 199 #[.int .i64 k] w fun e w'=>e=.returned (.int .i64 (factN k:Int))∧w'=w:=by
  go_enter Try.func199,Try.ntmps199
  go_wp2
  go_loopg [3,4] 8 (fun gg v3 v4 wr=>∃ i:Nat,1≤i∧(i≤k∨i=1)∧8 - i≤gg∧v3=.int .i64 (factN i:Int)∧v4=.int .i64 ((i+1:Nat):Int)∧wr=w)
  case atStart=>exact ⟨1,by omega,by omega,by omega,rfl,rfl,rfl⟩
  case round =>
    obtain ⟨i,hi1,hik,hg,rfl,rfl,rfl⟩:=hrel
    by_cases hlt:i+1≤k
    · have hltz:((i+1:Nat):Int)≤(k:Int):=by omega
      go_wp2
      go_roundg (8 - (i+1))
      case measure=>omega
      case rel =>
        have hf:=factN_le (i+1) (by omega)
        refine ⟨i+1,by omega,by omega,by omega,?_,?_,rfl⟩
        · have q:(factN i:Int)*((i:Int)+1)=(factN (i+1):Int):=by simp [factN]
          have q2:(factN i:Int)*(((i+1:Nat):Int))=(factN (i+1):Int):=by rw [← q];simp
          congr 1
          first|(rw [q2,w64 (by omega) (by omega)];done)|(rw [i64_w,q2,w64 (by omega) (by omega)];done)|(rw [q,w64 (by omega) (by omega)];done)|exact q2|exact q
        · first|rfl|(congr 1;first|(rw [i64_w,w64 (by omega) (by omega)];omega)|(rw [w64 (by omega) (by omega)];omega)|(simp;omega)|omega)
    · have hltz:¬ ((i+1:Nat):Int)≤(k:Int):=by omega
      go_wp2
      go_returns
      refine ⟨?_,rfl⟩
      rcases (show i=k∨(i=1∧k=0) by omega) with rfl|⟨rfl,rfl⟩ <;> rfl
set_option maxHeartbeats 8000000 in
theorem sign_ (w:World) (k:Int) (h0:0≤k) (hk:k≤100):Calls Try.prog 203 #[.int .i64 k] w fun e w'=>e=.returned (.int .i64 (1 - 2*(k % 2)))∧w'=w:=by
  go_enter Try.func203,Try.ntmps203
  go_wp2
  go_returns
  exact ⟨rfl,rfl⟩
/-- A function value that gives fractions. -/
def Gives (f:Nat) (F:Nat→S77) (n:Nat):Prop:=∀ k,k≤n→∀ w,Calls Try.prog f #[.int .i64 k] w fun e w'=>e=.returned (.agg #[.int .i64 (F k).f0,.int .i64 (F k).f1])∧Below w.heap.size w w'
set_option maxHeartbeats 8000000 in
theorem exp_gives:Gives 198 (fun k=>⟨1,factN k⟩) 8:=by
  intro k hk w
  have hu:=Try.underlying77
  go_enter Try.func198,Try.ntmps198
  go_wp2_with (go_at_call 199;refine (factorial_ _ k hk).mono ?_;rintro e w1 ⟨rfl,rfl⟩)
  go_returns
  exact ⟨rfl,qb_ (Below.refl _ _) _⟩
set_option maxHeartbeats 8000000 in
theorem log_gives:Gives 202 (fun k=>⟨1 - 2*(((k:Int)+1) % 2),k⟩) 8:=by
  intro k hk w
  have hu:=Try.underlying77
  go_enter Try.func202,Try.ntmps202
  go_wp2_with (go_at_call 203;refine (sign_ _ ((k:Int)+1) (by omega) (by omega)).mono ?_;rintro e w1 ⟨rfl,rfl⟩)
  go_returns
  exact ⟨rfl,qb_ (Below.refl _ _) _⟩
/-- One power more. -/
def powersStep (t:Tb) (first:Nat) (F:Nat→S77) (s:Tb × Tb) (k:Nat):Tb × Tb :=
  (if first≤k then sumT s.1 (scaleT (if 0<k then timesT s.2 t else s.2) (F k)) else s.1,if 0<k then timesT s.2 t else s.2)
def powersS (t p:Tb) (first:Nat) (F:Nat→S77) (n:Nat):Tb × Tb:=(List.range n).foldl (powersStep t first F) (zeroT p.d p.n,unitT p.d p.n)
def powersT (t p:Tb) (first:Nat) (F:Nat→S77):Tb:=(powersS t p first F (p.n+1)).1
theorem powersS_succ (t p:Tb) (first:Nat) (F:Nat→S77) (n:Nat):powersS t p first F (n+1)=powersStep t first F (powersS t p first F n) n:=by unfold powersS;rw [List.range_succ,List.foldl_append];rfl
theorem powersS_like {t p:Tb} (first:Nat) (F:Nat→S77) (h:Sz p.d p.n) (n:Nat):Like (powersS t p first F n).1 p∧Like (powersS t p first F n).2 p:=by
  induction n with
  | zero=>exact ⟨⟨rfl,rfl,zeroT_ok h⟩,unitT_like h⟩
  | succ n ih =>
    rw [powersS_succ]
    unfold powersStep
    refine ⟨?_,?_⟩
    · dsimp only;split
      · exact sumT_like ih.1
      · exact ih.1
    · dsimp only;split
      · exact timesT_like' ih.2
      · exact ih.2
theorem likeL (w:World) {g h:Nat} {t p:Tb} (H:HasT w g h t p):Calls Try.prog 182 #[.pointer (some ⟨g,0,none⟩)] w (NewT w (zeroT p.d p.n) p):=by
  refine (like' w g h t H.tab H.like.2.2.sz).mono ?_
  rintro e w' ⟨g',h',rfl,T,hg,hh,hb⟩
  rw [H.like.1,H.like.2.1] at T
  exact ⟨g',h',rfl,⟨T,⟨rfl,rfl,zeroT_ok H.like.sz⟩⟩,hg,hh,hb⟩
set_option maxHeartbeats 16000000 in
set_option maxRecDepth 100000 in
theorem powers' (w:World) {g h:Nat} {t p:Tb} (H:HasT w g h t p) (hp:p.Ok) (first:Nat) (hfirst:first≤8) (f:Nat) (F:Nat→S77) (hG:Gives f F 8) (hF:∀ k,k≤8→first≤k→okF (F k)) (eg:∀ args w,(callFunc f args).run Try.prog w=.ok (.enter f args) w) :
    Calls Try.prog 197 #[.pointer (some ⟨g,0,none⟩),.int .i64 first,.func (.func f) #[] #[]] w (NewT w (powersT t p first F) p):=by
  have HT:=Aside0.mk H
  have OP:=Aside0.mk hp
  have HGv:=Aside0.mk hG
  have HFo:=Aside0.mk hF
  have hn8:p.n≤8:=hp.sz.n8
  clear H hp hG hF
  go_enter Try.func197,Try.ntmps197
  go_wp2_with (first
    | (go_at_call 182;refine (likeL _ HT.out).mono ?_;rintro e w1 ⟨g1,k1,rfl,T,hg,hh,hb⟩;have HO1:=Aside0.mk T;have HG1:=Aside0.mk hg;have HH1:=Aside0.mk hh;have HB1:=Aside0.mk hb;clear T hg hh hb)
    | (go_at_call 184;refine (unitL _ (HT.out.below HB1.out)).mono ?_;rintro e w2 ⟨g2,k2,rfl,T,hg,hh,hb⟩;have HP:=Aside0.mk T;have HO:=Aside0.mk (HO1.out.below hb);have HB:=Aside0.mk (show Below w.heap.size w w2 from qh_ HB1.out hb);have tn:=(HT.out.below HB.out).tab.c1;rw [HT.out.like.2.1] at tn;clear T hg hh hb))
  go_loopg [8,7,19] (p.n+1) (fun gg v8 v7 v19 wr=>∃ (i g1 k1 g2 k2:Nat),i≤p.n+1∧p.n+1 - i≤gg∧v8=.pointer (some ⟨g2,0,none⟩)∧v7=.pointer (some ⟨g1,0,none⟩)∧v19=.int .i64 i∧Aside0 (HasT wr g1 k1 (powersS t p first F i).1 p)∧Aside0 (HasT wr g2 k2 (powersS t p first F i).2 p)∧Aside0 (w.heap.size≤g1)∧Aside0 (w.heap.size≤k1)∧Aside0 (Below w.heap.size w wr))
  case atStart=>exact ⟨0,g1,k1,g2,k2,Nat.zero_le _,by omega,rfl,rfl,rfl,HO,HP,HG1,HH1,HB⟩
  case round =>
    clear HO HP HG1 HH1 HB HO1 HB1 tn
    obtain ⟨i,g1,k1,g2,k2,hi,hg,rfl,rfl,rfl,HO,HP,HG,HH,HB⟩:=hrel
    by_cases hlt:i<p.n+1
    · have hltz:(i:Int)<(p.n:Int)+1:=by omega
      have hi8:i≤8:=by omega
      by_cases h0:0<i
      · have h0z:(0:Int)<(i:Int):=by omega
        by_cases hf:first≤i
        · have hfz:(first:Int)≤(i:Int):=by omega
          go_wp2_with (first
            | (go_at_call 146;refine (timesL _ HP.out (HT.out.below HB.out) OP.out).mono ?_;rintro e w3 ⟨g3,k3,rfl,T,hg,hh,hb⟩;have HP3:=Aside0.mk T;have HO3:=Aside0.mk (HO.out.below hb);have HB3:=Aside0.mk (show Below w.heap.size w w3 from qh_ HB.out hb);clear T hg hh hb)
            | (go_at_fn f;refine (HGv.out i hi8 _).mono ?_;rintro e w4 ⟨rfl,hb⟩;have HP4:=Aside0.mk (HP3.out.below hb);have HO4:=Aside0.mk (HO3.out.below hb);have HB4:=Aside0.mk (show Below w.heap.size w w4 from qh_ HB3.out hb);clear hb)
            | (go_at_call 130;refine (scaledL _ HP4.out (F i) (HFo.out i hi8 hf)).mono ?_;rintro e w5 ⟨g5,k5,rfl,T,hg,hh,hb⟩;have HS:=Aside0.mk T;have HP5:=Aside0.mk (HP4.out.below hb);have HO5:=Aside0.mk (HO4.out.below hb);have HB5:=Aside0.mk (show Below w.heap.size w w5 from qh_ HB4.out hb);clear T hg hh hb)
            | (go_at_call 129;refine (sumL _ HO5.out HS.out OP.out).mono ?_;rintro e w6 ⟨g6,k6,rfl,T,hg,hh,hb⟩;have HO6:=Aside0.mk T;have HG6:=Aside0.mk (Nat.le_trans HB5.out.size hg);have HH6:=Aside0.mk (Nat.le_trans HB5.out.size hh);have HP6:=Aside0.mk (HP5.out.below hb);have HB6:=Aside0.mk (show Below w.heap.size w w6 from qh_ HB5.out hb);clear T hg hh hb))
          go_roundg (p.n+1 - (i+1))
          case measure=>omega
          case rel =>
            refine ⟨i+1,g6,k6,g3,k3,by omega,by omega,rfl,rfl,by first|rfl|(rw [w64 (by omega) (by omega)];rfl),?_,?_,HG6,HH6,HB6⟩
            · rw [powersS_succ];unfold powersStep;rw [if_pos hf,if_pos h0];exact HO6
            · rw [powersS_succ];unfold powersStep;rw [if_pos h0];exact HP6
        · have hfz:¬ (first:Int)≤(i:Int):=by omega
          go_wp2_with (go_at_call 146;refine (timesL _ HP.out (HT.out.below HB.out) OP.out).mono ?_;rintro e w3 ⟨g3,k3,rfl,T,hg,hh,hb⟩;have HP3:=Aside0.mk T;have HO3:=Aside0.mk (HO.out.below hb);have HB3:=Aside0.mk (show Below w.heap.size w w3 from qh_ HB.out hb);clear T hg hh hb)
          go_roundg (p.n+1 - (i+1))
          case measure=>omega
          case rel =>
            refine ⟨i+1,g1,k1,g3,k3,by omega,by omega,rfl,rfl,by first|rfl|(rw [w64 (by omega) (by omega)];rfl),?_,?_,HG,HH,HB3⟩
            · rw [powersS_succ];unfold powersStep;rw [if_neg hf];exact HO3
            · rw [powersS_succ];unfold powersStep;rw [if_pos h0];exact HP3
      · have h0z:¬ (0:Int)<(i:Int):=by omega
        have HP3:=HP
        have HO3:=HO
        have HB3:=HB
        by_cases hf:first≤i
        · have hfz:(first:Int)≤(i:Int):=by omega
          go_wp2_with (first
            | (go_at_fn f;refine (HGv.out i hi8 _).mono ?_;rintro e w4 ⟨rfl,hb⟩;have HP4:=Aside0.mk (HP3.out.below hb);have HO4:=Aside0.mk (HO3.out.below hb);have HB4:=Aside0.mk (show Below w.heap.size w w4 from qh_ HB3.out hb);clear hb)
            | (go_at_call 130;refine (scaledL _ HP4.out (F i) (HFo.out i hi8 hf)).mono ?_;rintro e w5 ⟨g5,k5,rfl,T,hg,hh,hb⟩;have HS:=Aside0.mk T;have HP5:=Aside0.mk (HP4.out.below hb);have HO5:=Aside0.mk (HO4.out.below hb);have HB5:=Aside0.mk (show Below w.heap.size w w5 from qh_ HB4.out hb);clear T hg hh hb)
            | (go_at_call 129;refine (sumL _ HO5.out HS.out OP.out).mono ?_;rintro e w6 ⟨g6,k6,rfl,T,hg,hh,hb⟩;have HO6:=Aside0.mk T;have HG6:=Aside0.mk (Nat.le_trans HB5.out.size hg);have HH6:=Aside0.mk (Nat.le_trans HB5.out.size hh);have HP6:=Aside0.mk (HP5.out.below hb);have HB6:=Aside0.mk (show Below w.heap.size w w6 from qh_ HB5.out hb);clear T hg hh hb))
          go_roundg (p.n+1 - (i+1))
          case measure=>omega
          case rel =>
            refine ⟨i+1,g6,k6,g2,k2,by omega,by omega,rfl,rfl,by first|rfl|(rw [w64 (by omega) (by omega)];rfl),?_,?_,HG6,HH6,HB6⟩
            · rw [powersS_succ];unfold powersStep;rw [if_pos hf,if_neg h0];exact HO6
            · rw [powersS_succ];unfold powersStep;rw [if_neg h0];exact HP6
        · have hfz:¬ (first:Int)≤(i:Int):=by omega
          go_wp2
          go_roundg (p.n+1 - (i+1))
          case measure=>omega
          case rel =>
            refine ⟨i+1,g1,k1,g2,k2,by omega,by omega,rfl,rfl,by first|rfl|(rw [w64 (by omega) (by omega)];rfl),?_,?_,HG,HH,HB3⟩
            · rw [powersS_succ];unfold powersStep;rw [if_neg hf];exact HO3
            · rw [powersS_succ];unfold powersStep;rw [if_neg h0];exact HP3
    · have hltz:¬ (i:Int)<(p.n:Int)+1:=by omega
      obtain rfl:i=p.n+1:=by omega
      go_wp2
      go_returns
      exact ⟨g1,k1,rfl,HO.out,HG.out,HH.out,HB.out⟩
end Go.Proofs.Ytaiefdhenikiiaa.Base
namespace Go.Proofs.Ytaiefdhenikiiaa.Base
open Go.RowKit Go.Proofs.YtaiefdhenikiiaaW.PrintWords Go.Proofs.YtaiefdhenikiiaaW.PrintLast Go.Proofs.YtaiefdhenikiiaaW.PrintMore
set_option linter.unusedVariables false
set_option linter.unusedSimpArgs false
def expF (k:Nat):S77:=⟨1,factN k⟩
def logF (k:Nat):S77:=⟨1 - 2*(((k:Int)+1) % 2),k⟩
theorem expF_ok:∀ k,k≤8→okF (expF k):=by decide
theorem logF_ok:∀ k,k≤8→1≤k→okF (logF k):=by decide
def expT (t p:Tb):Tb:=powersT t p 0 expF
def logT (t p:Tb):Tb:=powersT (lessT t p) p 1 logF
theorem powersT_like {t p:Tb} (first:Nat) (F:Nat→S77) (h:Sz p.d p.n):Like (powersT t p first F) p:=(powersS_like first F h _).1
theorem expT_like {t p:Tb} (h:Sz p.d p.n):Like (expT t p) p:=powersT_like _ _ h
theorem logT_like {t p:Tb} (h:Sz p.d p.n):Like (logT t p) p:=powersT_like _ _ h
set_option maxHeartbeats 8000000 in
theorem exponential' (w:World) {g h:Nat} {t p:Tb} (H:HasT w g h t p) (hp:p.Ok) :
    Calls Try.prog 145 #[.pointer (some ⟨g,0,none⟩)] w (NewT w (expT t p) p):=by
  have HT:=Aside0.mk H
  have OP:=Aside0.mk hp
  clear H hp
  go_enter Try.func145,Try.ntmps145
  go_wp2_with (go_at_call 197;refine (powers' _ HT.out OP.out 0 (by omega) 198 expF exp_gives (fun k hk _=>expF_ok k hk) (enters_at Try.func198 (by kernel_rfl) rfl)).mono ?_;rintro e w1 ⟨g1,k1,rfl,T,hg,hh,hb⟩)
  go_returns
  exact ⟨g1,k1,rfl,T,hg,hh,hb⟩
set_option maxHeartbeats 8000000 in
theorem logarithm' (w:World) {g h:Nat} {t p:Tb} (H:HasT w g h t p) (hp:p.Ok) :
    Calls Try.prog 147 #[.pointer (some ⟨g,0,none⟩)] w (NewT w (logT t p) p):=by
  have HT:=Aside0.mk H
  have OP:=Aside0.mk hp
  clear H hp
  go_enter Try.func147,Try.ntmps147
  go_wp2_with (first
    | (go_at_call 201;refine (lessUnit' _ HT.out OP.out).mono ?_;rintro e w1 ⟨g1,k1,rfl,T,hg,hh,hb⟩;have HO:=Aside0.mk T;have HB:=Aside0.mk hb;clear T hg hh hb)
    | (go_at_call 197;refine (powers' _ HO.out OP.out 1 (by omega) 202 logF log_gives (fun k hk h1=>logF_ok k hk h1) (enters_at Try.func202 (by kernel_rfl) rfl)).mono ?_;rintro e w2 ⟨g2,k2,rfl,T,hg,hh,hb⟩;have HO2:=Aside0.mk T;have HG2:=Aside0.mk (Nat.le_trans HB.out.size hg);have HH2:=Aside0.mk (Nat.le_trans HB.out.size hh);have HB2:=Aside0.mk (show Below w.heap.size w w2 from qh_ HB.out hb);clear T hg hh hb))
  go_returns
  exact ⟨g2,k2,rfl,HO2.out,HG2.out,HH2.out,HB2.out⟩
end Go.Proofs.Ytaiefdhenikiiaa.Base
namespace Go.Proofs.Ytaiefdhenikiiaa.Base
open Go.RowKit Go.Proofs.YtaiefdhenikiiaaW.PrintWords Go.Proofs.YtaiefdhenikiiaaW.PrintLast Go.Proofs.YtaiefdhenikiiaaW.PrintMore
attribute [local go_sem] max2_int qp1_ max_two min_two max_three min_three max_four min_four Go.Proofs.YtaiefdhenikiiaaZ.qw_   -- for this text's walks alone
set_option linter.unusedVariables false
set_option linter.unusedSimpArgs false
def qh1_.j0:Nat→Bool→Int→Int→List (S79)→Int→Int→List (S79)→Option (Int)
 | 0,_,_,_,_,_,_,_=>none
 | k+1,x5,x1606000,x1606001,x1606002,x1607000,x1607001,x1607002=>if x5=true then (some 1) else ((qd3_.f x1606000 x1606001 x1606002 x1607000 x1607001 x1607002).bind fun o9=>(if o9=true then (some 0) else (some 2)))
def qh1_.f (k:Nat) (a0_0:Int) (a0_1:Int) (l0_2:List (S79)) (a1_0:Int) (a1_1:Int) (l1_2:List (S79)):Option (Int):=(qz1_.f k a0_0 a0_1 l0_2).bind fun q8=>(if q8=true then ((qz1_.f k a1_0 a1_1 l1_2).bind fun o7=>(qh1_.j0 k (!o7) a0_0 a0_1 l0_2 a1_0 a1_1 l1_2)) else (qh1_.j0 k true a0_0 a0_1 l0_2 a1_0 a1_1 l1_2))
theorem qh1_.mono_l:∀ k,(∀ y0 y1 y2 y3 y4 y5 y6,LeO (qh1_.j0 k y0 y1 y2 y3 y4 y5 y6) (qh1_.j0 (k+1) y0 y1 y2 y3 y4 y5 y6))
 | 0=>fun _ _ _ _ _ _ _ r h=>by simp [qh1_.j0] at h
 | k+1=>by
  have ih0:=qh1_.mono_l k
  ·intro y0 y1 y2 y3 y4 y5 y6
   unfold qh1_.j0
   repeat' first
   | (with_reducible exact ih0 _ _ _ _ _ _ _)
   | (with_reducible exact qz1_.mono _ _ _ _)
   | (with_reducible exact LeO.refl _)
   | (with_reducible exact LeO.none _)
   | (with_reducible refine LeO.ite ?_ ?_)
   | (with_reducible refine LeO.bind ?_ (fun _=>?_))
   | exact ih0 _ _ _ _ _ _ _
   | exact qz1_.mono _ _ _ _
   | exact LeO.none _
   | refine LeO.ite ?_ ?_
   | refine LeO.bind ?_ (fun _=>?_)
theorem qh1_.mono:∀ a0 a1 a2 a3 a4 a5 k,LeO (qh1_.f k a0 a1 a2 a3 a4 a5) (qh1_.f (k+1) a0 a1 a2 a3 a4 a5):=by
 intro a0 a1 a2 a3 a4 a5 k
 have ih0:=qh1_.mono_l k
 unfold qh1_.f
 repeat' first
   | (with_reducible exact ih0 _ _ _ _ _ _ _)
   | (with_reducible exact qz1_.mono _ _ _ _)
   | (with_reducible exact LeO.refl _)
   | (with_reducible exact LeO.none _)
   | (with_reducible refine LeO.ite ?_ ?_)
   | (with_reducible refine LeO.bind ?_ (fun _=>?_))
   | exact ih0 _ _ _ _ _ _ _
   | exact qz1_.mono _ _ _ _
   | exact LeO.none _
   | refine LeO.ite ?_ ?_
   | refine LeO.bind ?_ (fun _=>?_)
set_option maxHeartbeats 8000000 in
set_option maxRecDepth 100000 in
theorem qh1_.calls (k:Nat) (a0_0:Int) (a0_1:Int) (A0_2:Option Addr) (c0_2:Nat) (l0_2:List (S79)) (a1_0:Int) (a1_1:Int) (A1_2:Option Addr) (c1_2:Nat) (l1_2:List (S79)) (r:Int) (w:World) (hr0_2:Kd.C k79 w A0_2 l0_2.length l0_2) (hc0_2:l0_2.length≤c0_2) (hr1_2:Kd.C k79 w A1_2 l1_2.length l1_2) (hc1_2:l1_2.length≤c1_2) (h:qh1_.f k a0_0 a0_1 l0_2 a1_0 a1_1 l1_2=some r) :
  Calls Try.prog 144 #[.agg #[.int .i64 a0_0,.int .i64 a0_1,.slice A0_2 l0_2.length c0_2],.agg #[.int .i64 a1_0,.int .i64 a1_1,.slice A1_2 l1_2.length c1_2]] w fun e w'=>e=.returned (.int .i64 r)∧Below w.heap.size w w':=by
 have hu38:=Try.underlying38
 have HR0_2:=aK hr0_2
 have HC0_2:=aK hc0_2
 clear hr0_2 hc0_2
 have HR1_2:=aK hr1_2
 have HC1_2:=aK hc1_2
 clear hr1_2 hc1_2
 have HB:=aK (Below.refl w.heap.size w)
 have H:((qz1_.f k a0_0 a0_1 l0_2).bind fun q8=>(if q8=true then ((qz1_.f k a1_0 a1_1 l1_2).bind fun o7=>(qh1_.j0 k (!o7) a0_0 a0_1 l0_2 a1_0 a1_1 l1_2)) else (qh1_.j0 k true a0_0 a0_1 l0_2 a1_0 a1_1 l1_2)))=some r:=h
 clear h
 have HC3:=aK H
 clear H
 go_enter Try.func144,Try.ntmps144
 go_upto_region 1 with (first|((with_reducible refine qt_ (N:=2) rfl ?_);refine qr_ ?hg (N:=2) ?hd (cs:=#[.int .i64 a0_0,.int .i64 a0_1,.slice A0_2 l0_2.length c0_2]) (t:=38) ?hr ?_;(case hd=>rfl);(case hg=>rfl);(case hr=>first|(go_simp;done)|(go_simp;rfl));intro j5 hg w4 hbox hb;have n0_:=aK (qh_ (by repeat (first|(with_reducible first|exact HB.out|apply qb_|apply qa_|apply qc_)|exact HB.out)) hb);have n1_:=aK (hbox);have n2_:=aK ((by rw [hg];exact (ql_ (by repeat (first|(with_reducible first|exact HB.out|apply qb_|apply qa_|apply qc_)|exact HB.out))):w.heap.size≤j5));have n3_:=aK ((by rw [hg];exact (ql_ (by repeat (first|(with_reducible first|exact HB.out|apply qb_|apply qa_|apply qc_)|exact HB.out))):w.heap.size≤j5));clear HB;have HB:=n0_;have j3:=n1_;have GW1605:=n2_;have l5:=n3_;clear n0_ n1_ n2_ n3_;clear hb hbox hg)|((with_reducible refine qt_ (N:=3) rfl ?_);refine qr_ ?hg (N:=3) ?hd (cs:=#[.int .i64 a1_0,.int .i64 a1_1,.slice A1_2 l1_2.length c1_2]) (t:=38) ?hr ?_;(case hd=>rfl);(case hg=>rfl);(case hr=>first|(go_simp;done)|(go_simp;rfl));intro j6 hg w5 hbox hb;have n0_:=aK (qk_ (g:=j5) (o:=.cells #[.int .i64 a0_0,.int .i64 a0_1,.slice A0_2 l0_2.length c0_2] 38 (0,0)) (by (with_reducible repeat (first|refine qg_ ?_ _|refine qj_ ?_|refine qf_ ?_ _));exact j3.out) hb);have n1_:=aK (qh_ (by repeat (first|(with_reducible first|exact HB.out|apply qb_|apply qa_|apply qc_|refine qi_ ?_ l5.out)|exact HB.out)) hb);have n2_:=aK (hbox);have n3_:=aK ((by rw [hg];exact (ql_ (by repeat (first|(with_reducible first|exact HB.out|apply qb_|apply qa_|apply qc_|refine qi_ ?_ l5.out)|exact HB.out))):w.heap.size≤j6));have n4_:=aK ((by rw [hg];exact (ql_ (by repeat (first|(with_reducible first|exact HB.out|apply qb_|apply qa_|apply qc_|refine qi_ ?_ l5.out)|exact HB.out))):w.heap.size≤j6));have n5_:=aK ((by rw [hg];exact Nat.ne_of_lt (blk_lt (g:=j5) (o:=.cells #[.int .i64 a0_0,.int .i64 a0_1,.slice A0_2 l0_2.length c0_2] 38 (0,0)) (by (with_reducible repeat (first|refine qg_ ?_ _|refine qj_ ?_|refine qf_ ?_ _));exact j3.out)):j5≠j6));have n6_:=aK ((by rw [hg];exact Nat.ne_of_gt (blk_lt (g:=j5) (o:=.cells #[.int .i64 a0_0,.int .i64 a0_1,.slice A0_2 l0_2.length c0_2] 38 (0,0)) (by (with_reducible repeat (first|refine qg_ ?_ _|refine qj_ ?_|refine qf_ ?_ _));exact j3.out)):j6≠j5));clear j3;clear HB;have j3:=n0_;have HB:=n1_;have j4:=n2_;have GW1606:=n3_;have o5:=n4_;have l8:=n5_;have l7:=n6_;clear n0_ n1_ n2_ n3_ n4_ n5_ n6_;clear hb hbox hg))
 (try simp only [Act.put,List.setIfInBounds_toArray,List.set_cons_zero,List.set_cons_succ])
 go_cut [5] (fun v5 wc=>∃ (kq:Nat) (z8:Bool),v5=.bool z8∧Aside0 (qh1_.j0 kq z8 a0_0 a0_1 l0_2 a1_0 a1_1 l1_2=some r)∧Aside0 (kq≤k)∧Aside0 (wc.heap[j5]?=some (.cells #[.int .i64 a0_0,.int .i64 a0_1,(.slice A0_2 l0_2.length c0_2)] 38 (0,0)))∧Aside0 (wc.heap[j6]?=some (.cells #[.int .i64 a1_0,.int .i64 a1_1,(.slice A1_2 l1_2.length c1_2)] 38 (0,0)))∧Aside0 (Below w.heap.size w wc))
 case first =>
  have H:=HC3.out
  clear HC3
  replace H:=Option.bind_eq_some_iff.mp H
  obtain ⟨q8,A60,H⟩:=H
  replace H:(if q8=true then ((qz1_.f k a1_0 a1_1 l1_2).bind fun o7=>(qh1_.j0 k (!o7) a0_0 a0_1 l0_2 a1_0 a1_1 l1_2)) else (qh1_.j0 k true a0_0 a0_1 l0_2 a1_0 a1_1 l1_2))=some r:=H
  have A6:=aK A60
  clear A60
  by_cases c7:q8=true
  ·subst c7
   have H1:((qz1_.f k a1_0 a1_1 l1_2).bind fun o7=>(qh1_.j0 k (!o7) a0_0 a0_1 l0_2 a1_0 a1_1 l1_2))=some r:=by rw [if_pos rfl] at H;exact H
   clear H
   have H:=H1
   clear H1
   replace H:=Option.bind_eq_some_iff.mp H
   obtain ⟨o7,A80,H⟩:=H
   replace H:(qh1_.j0 k (!o7) a0_0 a0_1 l0_2 a1_0 a1_1 l1_2)=some r:=H
   have A8:=aK A80
   clear A80
   have H':=aK H
   clear H
   have hnb9:=l8.out
   have hnc9:=l7.out
   have hcz10_0:w5.cell? ⟨j5,0,none⟩=some (.int .i64 a0_0):=(qe_ j3.out 0).trans rfl
   have hcz10_1:w5.cell? ⟨j5,1,none⟩=some (.int .i64 a0_1):=(qe_ j3.out 1).trans rfl
   have hcz10_2:w5.cell? ⟨j5,2,none⟩=some (.slice A0_2 l0_2.length c0_2):=(qe_ j3.out 2).trans rfl
   have hfz10_0:=qd_ j3.out 0
   have hfz10_1:=qd_ j3.out 1
   have hfz10_2:=qd_ j3.out 2
   go_wp2_with (first|((with_reducible refine qy_ (f:=83) rfl ?_);refine goesL_ (some 7) rfl rfl Try.func83 (by kernel_rfl) rfl #[.agg #[.int .i64 a0_0,.int .i64 a0_1,.slice A0_2 l0_2.length c0_2]] rfl (by (try simp only [List.map_toArray,List.map_cons,List.map_nil]);first|done|rfl|(simp only [List.length_drop,List.length_take];rfl)) ?_;(with_reducible refine (qz1_.calls k a0_0 a0_1 _ _ l0_2 true _ ?side1 ?side2 A6.out).mono ?_);(case side1=>repeat (first|exact (Kd.qd1_ HR0_2.out HB.out)|(with_reducible refine Kd.qx2_ ?_ _)|(with_reducible refine Kd.qw2_ ?_ _)|(with_reducible refine Kd.C_drew ?_)));(case side2=>exact HC0_2.out);rintro e w11 ⟨rfl,hb⟩;refine ⟨_,rfl,?_⟩;have n0_:=aK (qk_ (g:=j5) (o:=.cells #[.int .i64 a0_0,.int .i64 a0_1,.slice A0_2 l0_2.length c0_2] 38 (0,0)) (by (with_reducible repeat (first|refine qg_ ?_ _|refine qj_ ?_|refine qf_ ?_ _));exact j3.out) hb);have n1_:=aK (qk_ (g:=j6) (o:=.cells #[.int .i64 a1_0,.int .i64 a1_1,.slice A1_2 l1_2.length c1_2] 38 (0,0)) (by (with_reducible repeat (first|refine qg_ ?_ _|refine qj_ ?_|refine qf_ ?_ _));exact j4.out) hb);have n2_:=aK (qh_ (by repeat (first|(with_reducible first|exact HB.out|apply qb_|apply qa_|apply qc_|refine qi_ ?_ l5.out|refine qi_ ?_ o5.out)|exact HB.out)) hb);clear j3;clear j4;clear HB;have j3:=n0_;have j4:=n1_;have HB:=n2_;clear n0_ n1_ n2_;(try clear hb);(try clear hb2);(try clear hk);(try clear hi);have hcz12_0:w11.cell? ⟨j6,0,none⟩=some (.int .i64 a1_0):=(qe_ j4.out 0).trans rfl;have hcz12_1:w11.cell? ⟨j6,1,none⟩=some (.int .i64 a1_1):=(qe_ j4.out 1).trans rfl;have hcz12_2:w11.cell? ⟨j6,2,none⟩=some (.slice A1_2 l1_2.length c1_2):=(qe_ j4.out 2).trans rfl;have hfz12_0:=qd_ j4.out 0;have hfz12_1:=qd_ j4.out 1;have hfz12_2:=qd_ j4.out 2)|(go_at_call 83;(with_reducible refine (qz1_.calls k a1_0 a1_1 _ _ l1_2 o7 _ ?side1 ?side2 A8.out).mono ?_);(case side1=>repeat (first|exact (Kd.qd1_ HR1_2.out HB.out)|(with_reducible refine Kd.qx2_ ?_ _)|(with_reducible refine Kd.qw2_ ?_ _)|(with_reducible refine Kd.C_drew ?_)));(case side2=>exact HC1_2.out);rintro e w13 ⟨rfl,hb⟩;have n0_:=aK (qk_ (g:=j5) (o:=.cells #[.int .i64 a0_0,.int .i64 a0_1,.slice A0_2 l0_2.length c0_2] 38 (0,0)) (by (with_reducible repeat (first|refine qg_ ?_ _|refine qj_ ?_|refine qf_ ?_ _));exact j3.out) hb);have n1_:=aK (qk_ (g:=j6) (o:=.cells #[.int .i64 a1_0,.int .i64 a1_1,.slice A1_2 l1_2.length c1_2] 38 (0,0)) (by (with_reducible repeat (first|refine qg_ ?_ _|refine qj_ ?_|refine qf_ ?_ _));exact j4.out) hb);have n2_:=aK (qh_ (by repeat (first|(with_reducible first|exact HB.out|apply qb_|apply qa_|apply qc_|refine qi_ ?_ l5.out|refine qi_ ?_ o5.out)|exact HB.out)) hb);clear j3;clear j4;clear HB;have j3:=n0_;have j4:=n1_;have HB:=n2_;clear n0_ n1_ n2_;(try clear hb);(try clear hb2);(try clear hk);(try clear hi)))
   go_meet
   case rel=>exact ⟨_,(!o7),(by first|rfl|(simp;done)|(simp [*];done)),H',⟨by first|omega|exact Nat.le_refl _⟩,⟨by (with_reducible repeat (first|refine qg_ ?_ _|refine qj_ ?_|refine qf_ ?_ _));exact j3.out⟩,⟨by (with_reducible repeat (first|refine qg_ ?_ _|refine qj_ ?_|refine qf_ ?_ _));exact j4.out⟩,⟨by repeat (first|(with_reducible first|exact HB.out|apply qb_|apply qa_|apply qc_|refine qi_ ?_ l5.out|refine qi_ ?_ o5.out)|exact HB.out)⟩⟩
  ·replace c7:=Bool.eq_false_iff.mpr c7
   subst c7
   have H1:(qh1_.j0 k true a0_0 a0_1 l0_2 a1_0 a1_1 l1_2)=some r:=by rw [if_neg (show ¬ (false=true) by decide)] at H;exact H
   clear H
   have H:=H1
   clear H1
   have H':=aK H
   clear H
   have hnb14:=l8.out
   have hnc14:=l7.out
   have hcz15_0:w5.cell? ⟨j5,0,none⟩=some (.int .i64 a0_0):=(qe_ j3.out 0).trans rfl
   have hcz15_1:w5.cell? ⟨j5,1,none⟩=some (.int .i64 a0_1):=(qe_ j3.out 1).trans rfl
   have hcz15_2:w5.cell? ⟨j5,2,none⟩=some (.slice A0_2 l0_2.length c0_2):=(qe_ j3.out 2).trans rfl
   have hfz15_0:=qd_ j3.out 0
   have hfz15_1:=qd_ j3.out 1
   have hfz15_2:=qd_ j3.out 2
   go_wp2_with (first|((with_reducible refine qy_ (f:=83) rfl ?_);refine goesL_ (some 7) rfl rfl Try.func83 (by kernel_rfl) rfl #[.agg #[.int .i64 a0_0,.int .i64 a0_1,.slice A0_2 l0_2.length c0_2]] rfl (by (try simp only [List.map_toArray,List.map_cons,List.map_nil]);first|done|rfl|(simp only [List.length_drop,List.length_take];rfl)) ?_;(with_reducible refine (qz1_.calls k a0_0 a0_1 _ _ l0_2 false _ ?side1 ?side2 A6.out).mono ?_);(case side1=>repeat (first|exact (Kd.qd1_ HR0_2.out HB.out)|(with_reducible refine Kd.qx2_ ?_ _)|(with_reducible refine Kd.qw2_ ?_ _)|(with_reducible refine Kd.C_drew ?_)));(case side2=>exact HC0_2.out);rintro e w16 ⟨rfl,hb⟩;refine ⟨_,rfl,?_⟩;have n0_:=aK (qk_ (g:=j5) (o:=.cells #[.int .i64 a0_0,.int .i64 a0_1,.slice A0_2 l0_2.length c0_2] 38 (0,0)) (by (with_reducible repeat (first|refine qg_ ?_ _|refine qj_ ?_|refine qf_ ?_ _));exact j3.out) hb);have n1_:=aK (qk_ (g:=j6) (o:=.cells #[.int .i64 a1_0,.int .i64 a1_1,.slice A1_2 l1_2.length c1_2] 38 (0,0)) (by (with_reducible repeat (first|refine qg_ ?_ _|refine qj_ ?_|refine qf_ ?_ _));exact j4.out) hb);have n2_:=aK (qh_ (by repeat (first|(with_reducible first|exact HB.out|apply qb_|apply qa_|apply qc_|refine qi_ ?_ l5.out|refine qi_ ?_ o5.out)|exact HB.out)) hb);clear j3;clear j4;clear HB;have j3:=n0_;have j4:=n1_;have HB:=n2_;clear n0_ n1_ n2_;(try clear hb);(try clear hb2);(try clear hk);(try clear hi)))
   go_meet
   case rel=>exact ⟨_,(true),(by first|rfl|(simp;done)|(simp [*];done)),H',⟨by first|omega|exact Nat.le_refl _⟩,⟨by (with_reducible repeat (first|refine qg_ ?_ _|refine qj_ ?_|refine qf_ ?_ _));exact j3.out⟩,⟨by (with_reducible repeat (first|refine qg_ ?_ _|refine qj_ ?_|refine qf_ ?_ _));exact j4.out⟩,⟨by repeat (first|(with_reducible first|exact HB.out|apply qb_|apply qa_|apply qc_|refine qi_ ?_ l5.out|refine qi_ ?_ o5.out)|exact HB.out)⟩⟩
 case rest =>
  clear HC3
  try clear c1
  try clear p2
  try clear c7
  try clear c8
  try clear c9
  try clear c14
  try clear hcz10_0
  try clear hcz10_1
  try clear hcz10_2
  try clear hcz12_0
  try clear hcz12_1
  try clear hcz12_2
  try clear hcz15_0
  try clear hcz15_1
  try clear hcz15_2
  try clear hfz10_0
  try clear hfz10_1
  try clear hfz10_2
  try clear hfz12_0
  try clear hfz12_1
  try clear hfz12_2
  try clear hfz15_0
  try clear hfz15_1
  try clear hfz15_2
  obtain ⟨kq,z8,rfl,HA,HJ2,j3,j4,HB⟩:=hcut
  cases kq with
  | zero=>exact absurd HA.out (by simp [qh1_.j0])
  | succ kj2 =>
   have H:=HA.out
   clear HA
   simp only [qh1_.j0] at H
   by_cases c17:z8=true
   ·subst c17
    have H1:(some 1)=some r:=by rw [if_pos rfl] at H;exact H
    clear H
    have H:=H1
    clear H1
    obtain rfl:=Option.some.inj H
    go_wp2
    go_ret
    exact ⟨by first|rfl|(simp [qn_,qo_] <;> rfl)|(simp [*,qn_,qo_] <;> rfl),by repeat (first|(with_reducible first|exact HB.out|apply qb_|apply qa_|apply qc_|refine qi_ ?_ l5.out|refine qi_ ?_ o5.out)|exact HB.out)⟩
   ·replace c17:=Bool.eq_false_iff.mpr c17
    subst c17
    have H1:((qd3_.f a0_0 a0_1 l0_2 a1_0 a1_1 l1_2).bind fun o9=>(if o9=true then (some 0) else (some 2)))=some r:=by rw [if_neg (show ¬ (false=true) by decide)] at H;exact H
    clear H
    have H:=H1
    clear H1
    replace H:=Option.bind_eq_some_iff.mp H
    obtain ⟨o9,C8,H⟩:=H
    replace H:(if o9=true then (some 0) else (some 2))=some r:=H
    have A18:=aK C8
    clear C8
    by_cases c19:o9=true
    ·subst c19
     have H1:(some 0)=some r:=by rw [if_pos rfl] at H;exact H
     clear H
     have H:=H1
     clear H1
     obtain rfl:=Option.some.inj H
     have hnb20:=l8.out
     have hnc20:=l7.out
     have hcz21_0:wc.cell? ⟨j5,0,none⟩=some (.int .i64 a0_0):=(qe_ j3.out 0).trans rfl
     have hcz21_1:wc.cell? ⟨j5,1,none⟩=some (.int .i64 a0_1):=(qe_ j3.out 1).trans rfl
     have hcz21_2:wc.cell? ⟨j5,2,none⟩=some (.slice A0_2 l0_2.length c0_2):=(qe_ j3.out 2).trans rfl
     have hfz21_0:=qd_ j3.out 0
     have hfz21_1:=qd_ j3.out 1
     have hfz21_2:=qd_ j3.out 2
     have hcz22_0:wc.cell? ⟨j6,0,none⟩=some (.int .i64 a1_0):=(qe_ j4.out 0).trans rfl
     have hcz22_1:wc.cell? ⟨j6,1,none⟩=some (.int .i64 a1_1):=(qe_ j4.out 1).trans rfl
     have hcz22_2:wc.cell? ⟨j6,2,none⟩=some (.slice A1_2 l1_2.length c1_2):=(qe_ j4.out 2).trans rfl
     have hfz22_0:=qd_ j4.out 0
     have hfz22_1:=qd_ j4.out 1
     have hfz22_2:=qd_ j4.out 2
     go_wp2_with (first|((with_reducible refine qy_ (f:=110) rfl ?_);refine goesL_ (some 17) rfl rfl Try.func110 (by kernel_rfl) rfl #[.agg #[.int .i64 a0_0,.int .i64 a0_1,.slice A0_2 l0_2.length c0_2],.agg #[.int .i64 a1_0,.int .i64 a1_1,.slice A1_2 l1_2.length c1_2]] rfl (by (try simp only [List.map_toArray,List.map_cons,List.map_nil]);first|done|rfl|(simp only [List.length_drop,List.length_take];rfl)) ?_;(with_reducible refine (qd3_.calls a0_0 a0_1 _ _ l0_2 a1_0 a1_1 _ _ l1_2 true _ ?side1 ?side2 ?side3 ?side4 A18.out).mono ?_);(case side1=>repeat (first|exact (Kd.qd1_ HR0_2.out HB.out)|(with_reducible refine Kd.qx2_ ?_ _)|(with_reducible refine Kd.qw2_ ?_ _)|(with_reducible refine Kd.C_drew ?_)));(case side2=>exact HC0_2.out);(case side3=>repeat (first|exact (Kd.qd1_ HR1_2.out HB.out)|(with_reducible refine Kd.qx2_ ?_ _)|(with_reducible refine Kd.qw2_ ?_ _)|(with_reducible refine Kd.C_drew ?_)));(case side4=>exact HC1_2.out);rintro e w23 ⟨rfl,hb⟩;refine ⟨_,rfl,?_⟩;have n0_:=aK (qk_ (g:=j5) (o:=.cells #[.int .i64 a0_0,.int .i64 a0_1,.slice A0_2 l0_2.length c0_2] 38 (0,0)) (by (with_reducible repeat (first|refine qg_ ?_ _|refine qj_ ?_|refine qf_ ?_ _));exact j3.out) hb);have n1_:=aK (qk_ (g:=j6) (o:=.cells #[.int .i64 a1_0,.int .i64 a1_1,.slice A1_2 l1_2.length c1_2] 38 (0,0)) (by (with_reducible repeat (first|refine qg_ ?_ _|refine qj_ ?_|refine qf_ ?_ _));exact j4.out) hb);have n2_:=aK (qh_ (by repeat (first|(with_reducible first|exact HB.out|apply qb_|apply qa_|apply qc_|refine qi_ ?_ l5.out|refine qi_ ?_ o5.out)|exact HB.out)) hb);clear j3;clear j4;clear HB;have j3:=n0_;have j4:=n1_;have HB:=n2_;clear n0_ n1_ n2_;(try clear hb);(try clear hb2);(try clear hk);(try clear hi)))
     go_ret
     exact ⟨by first|rfl|(simp [qn_,qo_] <;> rfl)|(simp [*,qn_,qo_] <;> rfl),by repeat (first|(with_reducible first|exact HB.out|apply qb_|apply qa_|apply qc_|refine qi_ ?_ l5.out|refine qi_ ?_ o5.out)|exact HB.out)⟩
    ·replace c19:=Bool.eq_false_iff.mpr c19
     subst c19
     have H1:(some 2)=some r:=by rw [if_neg (show ¬ (false=true) by decide)] at H;exact H
     clear H
     have H:=H1
     clear H1
     obtain rfl:=Option.some.inj H
     have hnb24:=l8.out
     have hnc24:=l7.out
     have hcz25_0:wc.cell? ⟨j5,0,none⟩=some (.int .i64 a0_0):=(qe_ j3.out 0).trans rfl
     have hcz25_1:wc.cell? ⟨j5,1,none⟩=some (.int .i64 a0_1):=(qe_ j3.out 1).trans rfl
     have hcz25_2:wc.cell? ⟨j5,2,none⟩=some (.slice A0_2 l0_2.length c0_2):=(qe_ j3.out 2).trans rfl
     have hfz25_0:=qd_ j3.out 0
     have hfz25_1:=qd_ j3.out 1
     have hfz25_2:=qd_ j3.out 2
     have hcz26_0:wc.cell? ⟨j6,0,none⟩=some (.int .i64 a1_0):=(qe_ j4.out 0).trans rfl
     have hcz26_1:wc.cell? ⟨j6,1,none⟩=some (.int .i64 a1_1):=(qe_ j4.out 1).trans rfl
     have hcz26_2:wc.cell? ⟨j6,2,none⟩=some (.slice A1_2 l1_2.length c1_2):=(qe_ j4.out 2).trans rfl
     have hfz26_0:=qd_ j4.out 0
     have hfz26_1:=qd_ j4.out 1
     have hfz26_2:=qd_ j4.out 2
     go_wp2_with (first|((with_reducible refine qy_ (f:=110) rfl ?_);refine goesL_ (some 17) rfl rfl Try.func110 (by kernel_rfl) rfl #[.agg #[.int .i64 a0_0,.int .i64 a0_1,.slice A0_2 l0_2.length c0_2],.agg #[.int .i64 a1_0,.int .i64 a1_1,.slice A1_2 l1_2.length c1_2]] rfl (by (try simp only [List.map_toArray,List.map_cons,List.map_nil]);first|done|rfl|(simp only [List.length_drop,List.length_take];rfl)) ?_;(with_reducible refine (qd3_.calls a0_0 a0_1 _ _ l0_2 a1_0 a1_1 _ _ l1_2 false _ ?side1 ?side2 ?side3 ?side4 A18.out).mono ?_);(case side1=>repeat (first|exact (Kd.qd1_ HR0_2.out HB.out)|(with_reducible refine Kd.qx2_ ?_ _)|(with_reducible refine Kd.qw2_ ?_ _)|(with_reducible refine Kd.C_drew ?_)));(case side2=>exact HC0_2.out);(case side3=>repeat (first|exact (Kd.qd1_ HR1_2.out HB.out)|(with_reducible refine Kd.qx2_ ?_ _)|(with_reducible refine Kd.qw2_ ?_ _)|(with_reducible refine Kd.C_drew ?_)));(case side4=>exact HC1_2.out);rintro e w27 ⟨rfl,hb⟩;refine ⟨_,rfl,?_⟩;have n0_:=aK (qk_ (g:=j5) (o:=.cells #[.int .i64 a0_0,.int .i64 a0_1,.slice A0_2 l0_2.length c0_2] 38 (0,0)) (by (with_reducible repeat (first|refine qg_ ?_ _|refine qj_ ?_|refine qf_ ?_ _));exact j3.out) hb);have n1_:=aK (qk_ (g:=j6) (o:=.cells #[.int .i64 a1_0,.int .i64 a1_1,.slice A1_2 l1_2.length c1_2] 38 (0,0)) (by (with_reducible repeat (first|refine qg_ ?_ _|refine qj_ ?_|refine qf_ ?_ _));exact j4.out) hb);have n2_:=aK (qh_ (by repeat (first|(with_reducible first|exact HB.out|apply qb_|apply qa_|apply qc_|refine qi_ ?_ l5.out|refine qi_ ?_ o5.out)|exact HB.out)) hb);clear j3;clear j4;clear HB;have j3:=n0_;have j4:=n1_;have HB:=n2_;clear n0_ n1_ n2_;(try clear hb);(try clear hb2);(try clear hk);(try clear hi)))
     go_ret
     exact ⟨by first|rfl|(simp [qn_,qo_] <;> rfl)|(simp [*,qn_,qo_] <;> rfl),by repeat (first|(with_reducible first|exact HB.out|apply qb_|apply qa_|apply qc_|refine qi_ ?_ l5.out|refine qi_ ?_ o5.out)|exact HB.out)⟩
end Go.Proofs.Ytaiefdhenikiiaa.Base
