/- Texts that the proof of FnExactDynkinMap needs, part 8. No condition. -/
import Derived.Test.YtaiefdhenikiiaaMFnExactDynkinMap7
import Derived.Lib.Bytealg
namespace Go.Proofs.Ytaiefdhenikiiaa.Base
open Go.RowKit Go.Proofs.YtaiefdhenikiiaaW.PrintWords Go.Proofs.YtaiefdhenikiiaaW.PrintLast Go.Proofs.YtaiefdhenikiiaaW.PrintMore
set_option linter.unusedVariables false
set_option linter.unusedSimpArgs false
set_option maxHeartbeats 1000000 in
set_option maxRecDepth 100000 in
theorem compareString_ (a b:ByteArray) (w:World) :
    Calls Try.prog 230 #[.string a,.string b] w fun e w'=>e=.returned (.int .i64 (Lib.compareBytes a.data.toList b.data.toList))∧w'=w:=by
  go_enter Try.func230,Try.ntmps230
  go_wp2
  rw [run_callFunc_extern Try.func231 (by kernel_rfl) (by kernel_rfl) (by kernel_rfl) (e:=Extern.BytealgCompare.compare) (by kernel_rfl),Lib.run_compareString]
  simp only [Result.andThen]
  rw [Oper.upon_value]
  go_wp2
  go_ret
  exact ⟨rfl,rfl⟩
set_option maxHeartbeats 1000000 in
set_option maxRecDepth 100000 in
theorem compare_ (a b:ByteArray) (w:World) :
    Calls Try.prog 223 #[.string a,.string b] w fun e w'=>e=.returned (.int .i64 (Lib.compareBytes a.data.toList b.data.toList))∧w'=w:=by
  go_enter Try.func223,Try.ntmps223
  go_wp2_with (go_at_call 230;refine (compareString_ _ _ _).mono ?_;rintro e w' ⟨rfl,rfl⟩)
  go_ret
  exact ⟨rfl,rfl⟩
/-- The order of words: lengths first. -/
def cmpW (a b:ByteArray):Int:=if (a.size:Int) ≠ (b.size:Int) then wrap64 ((a.size:Int) - (b.size:Int)) else Lib.compareBytes a.data.toList b.data.toList
set_option maxHeartbeats 1000000 in
set_option maxRecDepth 100000 in
theorem compareWords_ (a b:ByteArray) (w:World) :
    Calls Try.prog 207 #[.string a,.string b] w fun e w'=>e=.returned (.int .i64 (cmpW a b))∧w'=w:=by
  go_enter Try.func207,Try.ntmps207
  by_cases h:(a.size:Int)=(b.size:Int)
  · unfold cmpW;rw [if_neg (fun hh=>hh h)]
    go_wp2_with (go_at_call 223;refine (compare_ _ _ _).mono ?_;rintro e w' ⟨rfl,rfl⟩)
    go_returns
    exact ⟨rfl,rfl⟩
  · unfold cmpW;rw [if_pos h]
    go_wp2
    go_returns
    exact ⟨rfl,rfl⟩
end Go.Proofs.Ytaiefdhenikiiaa.Base
namespace Go.Proofs.Ytaiefdhenikiiaa.Base
open Go.RowKit Go.Proofs.YtaiefdhenikiiaaW.PrintWords Go.Proofs.YtaiefdhenikiiaaW.PrintLast Go.Proofs.YtaiefdhenikiiaaW.PrintMore
set_option linter.unusedVariables false
set_option linter.unusedSimpArgs false
theorem within_is (x lo hi:Int):qx1_.f x lo hi=some (decide (lo≤x∧x≤hi)):=by
  unfold qx1_.f
  by_cases h:lo≤x
  · rw [if_pos h];simp [h]
  · rw [if_neg h];simp [h]
theorem upTo_is (x:Int):qb3_.f x 1000000000=some (decide (-1000000000≤x∧x≤1000000000)):=by
  unfold qb3_.f
  rw [show wrap64 (-1000000000)=-1000000000 from w64 (by omega) (by omega),within_is];rfl
theorem frac_is (a:S77):Ev (fun k=>qe1_.f k a.f0 a.f1) (decide (okF a)):=by
  unfold qe1_.f
  rw [within_is,upTo_is]
  simp only [Option.bind_some]
  by_cases h1:1≤a.f1∧a.f1≤1000000000
  · simp only [h1,and_self,decide_true,if_true]
    by_cases h2:-1000000000≤a.f0∧a.f0≤1000000000
    · simp only [h2,and_self,decide_true,if_true]
      have hg:=common_is (a:=a.f0) (b:=a.f1) (by omega) (by omega)
      refine Ev.bind hg (f:=fun k t=>some (t == 1)) ?_
      have e3:(((Int.gcd a.f0 a.f1:Nat):Int) == 1)=decide (okF a):=by
        by_cases c:Int.gcd a.f0 a.f1=1
        · rw [decide_eq_true (show okF a from ⟨h1.1,h1.2,h2.1,h2.2,c⟩),c];rfl
        · rw [decide_eq_false (fun h:okF a=>c h.2.2.2.2)]
          have:¬ ((Int.gcd a.f0 a.f1:Nat):Int)=1:=by omega
          simpa using this
      rw [e3]
      exact Ev.now _
    · rw [decide_eq_false h2,decide_eq_false (fun h:okF a=>h2 ⟨h.2.2.1,h.2.2.2.1⟩)]
      exact Ev.now _
  · rw [decide_eq_false h1,decide_eq_false (fun h:okF a=>h1 ⟨h.1,h.2.1⟩)]
    exact Ev.now _
/-- A letter's byte. -/
def letB (d:Nat) (b:UInt8):Bool:=decide (48≤b.toNat∧b.toNat < 48+d)
def wordB (d n:Nat) (s:ByteArray):Bool:=s.data.toList.all (letB d) && decide ((s.size:Int)≤(n:Int))
theorem word_loop (d n:Nat) (hd:d≤9) (s:ByteArray) (hs:s.size≤9223372036854775806) (m:Nat):∀ i:Nat,i+m=s.size →
    Ev (fun k=>qr1_.l0 k (d:Int) s (n:Int) (s.size:Int) (i:Int)) ((s.data.toList.drop i).all (letB d) && decide ((s.size:Int)≤(n:Int))):=by
  have hsz:s.data.toList.length=s.size:=by rw [Array.length_toList];rfl
  induction m with
  | zero =>
    intro i hi
    refine Ev.step (f:=fun _=>some (decide ((s.size:Int)≤(n:Int)))) (fun k=>?_) ?_
    · simp only [qr1_.l0]
      rw [if_neg (by omega)]
    · rw [List.drop_eq_nil_of_le (by omega)]
      exact Ev.now _
  | succ m ih =>
    intro i hi
    have hlt:i < s.data.toList.length:=by omega
    have hls:i < s.size:=by omega
    have hb:bt s (i:Int)=((s.data.toList[i]).toNat:Int):=by
      unfold bt
      rw [dif_pos (by simpa using hls)]
      rfl
    have hr:(s.data.toList[i]).toNat < 256:=(s.data.toList[i]).toNat_lt
    obtain ⟨b,hbb⟩:∃ b,b=s.data.toList[i]:=⟨_,rfl⟩
    rw [List.drop_eq_getElem_cons hlt,List.all_cons,← hbb]
    rw [← hbb] at hb hr
    by_cases c:letB d b=true
    · refine Ev.step (fun k=>?_) (by rw [c,Bool.true_and];exact ih (i+1) (by omega))
      have c':=of_decide_eq_true c
      simp only [qr1_.l0]
      rw [if_pos (by omega),if_pos (by omega),if_pos (by omega),hb,w64 (by omega) (by omega),w64 (by omega) (by omega),if_neg (by omega),if_neg (by omega),w64 (by omega) (by omega)]
      rfl
    · have cf:letB d b=false:=by simpa using c
      have c':=of_decide_eq_false cf
      rw [cf,Bool.false_and,Bool.false_and]
      refine Ev.step (f:=fun _=>some false) (fun k=>?_) (Ev.now _)
      simp only [qr1_.l0]
      rw [if_pos (by omega),if_pos (by omega),if_pos (by omega),hb,w64 (x:=(b.toNat:Int)) (by omega) (by omega),w64 (x:=48+(d:Int)) (by omega) (by omega)]
      by_cases c2:(b.toNat:Int) < 48
      · rw [if_pos c2]
      · rw [if_neg c2,if_pos (by omega)]
theorem word_is (d n:Nat) (hd:d≤9) (s:ByteArray) (hs:s.size≤9223372036854775806):Ev (fun k=>qr1_.f k (d:Int) s (n:Int)) (wordB d n s) :=
  word_loop d n hd s hs s.size 0 (by omega)
end Go.Proofs.Ytaiefdhenikiiaa.Base
namespace Go.Proofs.Ytaiefdhenikiiaa.Base
open Go.RowKit Go.Proofs.YtaiefdhenikiiaaW.PrintWords Go.Proofs.YtaiefdhenikiiaaW.PrintLast Go.Proofs.YtaiefdhenikiiaaW.PrintMore
set_option linter.unusedVariables false
set_option linter.unusedSimpArgs false
/-- A term that stands behind the term y. -/
def termB (d n:Nat) (y:Option S79) (x:S79):Bool :=
  wordB d n x.f0 && decide (okF x.f1) && (x.f1.f0 != 0) && (match y with|none=>true|some y=>decide (cmpW y.f0 x.f0 < 0))
end Go.Proofs.Ytaiefdhenikiiaa.Base
namespace Go.Proofs.Ytaiefdhenikiiaa.Base
open Go.RowKit Go.Proofs.YtaiefdhenikiiaaW.PrintWords Go.Proofs.YtaiefdhenikiiaaW.PrintLast Go.Proofs.YtaiefdhenikiiaaW.PrintMore
set_option linter.unusedVariables false
set_option linter.unusedSimpArgs false
/-- Does a word come before another one? -/
def befW (v w:ByteArray):Bool:=if (v.size:Int) ≠ (w.size:Int) then decide ((v.size:Int) < (w.size:Int)) else Op.bytesLess v.toList w.toList
theorem cmpBytes_less:∀ a b:List UInt8,decide (Lib.compareBytes a b < 0)=Op.bytesLess a b
  | [],[]=>rfl
  | [],_ :: _=>rfl
  | _ :: _,[]=>rfl
  | a :: x,b :: y=>by
    have ih:=cmpBytes_less x y
    unfold Lib.compareBytes Op.bytesLess
    by_cases h1:a < b
    · rw [if_pos h1];simp [h1]
    · rw [if_neg h1]
      by_cases h2:b < a
      · rw [if_pos h2]
        have h3:(a == b)=false:=by
          rw [beq_eq_false_iff_ne];intro e;rw [e] at h2;exact absurd h2 (UInt8.lt_irrefl b)
        simp [h1,h3]
      · rw [if_neg h2]
        have h3:a=b:=by
          have e1:=UInt8.not_lt.1 h1;have e2:=UInt8.not_lt.1 h2
          exact UInt8.le_antisymm e2 e1
        rw [ih,h3];simp
theorem cmp_bef (a b:ByteArray) (ha:a.size≤1000000000) (hb:b.size≤1000000000):decide (cmpW a b < 0)=befW a b:=by
  unfold cmpW befW
  by_cases h:(a.size:Int)=(b.size:Int)
  · rw [if_neg (by simpa using h),if_neg (by simpa using h),cmpBytes_less,ByteArray.toList_eq,ByteArray.toList_eq]
  · rw [if_pos h,if_pos h,w64 (by omega) (by omega),decide_eq_decide];omega
/-- Terms as_ told,one behind the other. -/
def goodB (d n:Nat):List S79→Bool
  | []=>true
  | [x]=>termB d n none x
  | x :: y :: l=>termB d n none x && (befW x.f0 y.f0 && goodB d n (y :: l))
end Go.Proofs.Ytaiefdhenikiiaa.Base
namespace Go.Proofs.Ytaiefdhenikiiaa.Base
open Go.RowKit Go.Proofs.YtaiefdhenikiiaaW.PrintWords Go.Proofs.YtaiefdhenikiiaaW.PrintLast Go.Proofs.YtaiefdhenikiiaaW.PrintMore
attribute [local go_sem] max2_int qo1_ max_two min_two max_three min_three max_four min_four Go.Proofs.YtaiefdhenikiiaaZ.qx_   -- for this text's walks alone
set_option linter.unusedVariables false
set_option linter.unusedSimpArgs false
def qr2_.f (a0 a1:ByteArray):Option (Int):=some (cmpW a0 a1)
theorem qr2_.calls (a0 a1:ByteArray) (r:Int) (w:World) (h:qr2_.f a0 a1=some r) :
  Calls Try.prog 207 #[.string a0,.string a1] w fun e w'=>e=.returned (.int .i64 r)∧Drawn0 w w':=by
 obtain rfl:=Option.some.inj h
 refine (compareWords_ a0 a1 w).mono ?_
 rintro e w' ⟨rfl,rfl⟩
 exact ⟨rfl,0,rfl⟩
end Go.Proofs.Ytaiefdhenikiiaa.Base
namespace Go.Proofs.Ytaiefdhenikiiaa.Base
open Go.RowKit Go.Proofs.YtaiefdhenikiiaaW.PrintWords Go.Proofs.YtaiefdhenikiiaaW.PrintLast Go.Proofs.YtaiefdhenikiiaaW.PrintMore
attribute [local go_sem] max2_int qo1_ max_two min_two max_three min_three max_four min_four Go.Proofs.YtaiefdhenikiiaaZ.qx_   -- for this text's walks alone
set_option linter.unusedVariables false
set_option linter.unusedSimpArgs false
def ql_.l0:Nat→Int→Int→List (S79)→List (S79)→Int→Int→Option (Bool)
 | 0,_,_,_,_,_,_=>none
 | k+1,x0,x1,x2,x9,x10,x11=>if x11 < x10 then (if 0≤x11 then (if x11 < (x9.length:Int) then ((qr1_.f k x0 ((rd_T79 x9 x11).f0) x1).bind fun t149=>(if t149=true then ((qe1_.f k ((rd_T79 x9 x11).f1.f0) ((rd_T79 x9 x11).f1.f1)).bind fun t150=>(if t150=true then (if ((rd_T79 x9 x11).f1.f0)=0 then (some false) else (if x11 > 0 then (if 0≤(wrap64 (x11 - 1)) then (if (wrap64 (x11 - 1)) < (x2.length:Int) then ((qr2_.f ((rd_T79 x2 (wrap64 (x11 - 1))).f0) ((rd_T79 x9 x11).f0)).bind fun t152=>(if t152 ≥ 0 then (some false) else (ql_.l0 k x0 x1 x2 x9 x10 (wrap64 (x11+1))))) else (none)) else (none)) else (ql_.l0 k x0 x1 x2 x9 x10 (wrap64 (x11+1))))) else (some false))) else (some false))) else (none)) else (none)) else (some true)
def ql_.f (k:Nat) (a0:Int) (a1:Int) (l2:List (S79)):Option (Bool):=ql_.l0 k a0 a1 l2 l2 (l2.length:Int) 0
theorem ql_.mono_l:∀ k,(∀ y0 y1 y2 y3 y4 y5,LeO (ql_.l0 k y0 y1 y2 y3 y4 y5) (ql_.l0 (k+1) y0 y1 y2 y3 y4 y5))
 | 0=>fun _ _ _ _ _ _ r h=>by simp [ql_.l0] at h
 | k+1=>by
  have ih0:=ql_.mono_l k
  ·intro y0 y1 y2 y3 y4 y5
   unfold ql_.l0
   repeat' first
   | (with_reducible exact ih0 _ _ _ _ _ _)
   | (with_reducible exact qe1_.mono _ _ _)
   | (with_reducible exact qr1_.mono _ _ _ _)
   | (with_reducible exact LeO.refl _)
   | (with_reducible exact LeO.none _)
   | (with_reducible refine LeO.ite ?_ ?_)
   | (with_reducible refine LeO.bind ?_ (fun _=>?_))
   | exact ih0 _ _ _ _ _ _
   | exact qe1_.mono _ _ _
   | exact qr1_.mono _ _ _ _
   | exact LeO.none _
   | refine LeO.ite ?_ ?_
   | refine LeO.bind ?_ (fun _=>?_)
theorem ql_.mono:∀ a0 a1 a2 k,LeO (ql_.f k a0 a1 a2) (ql_.f (k+1) a0 a1 a2):=by
 intro a0 a1 a2 k
 have ih0:=ql_.mono_l k
 unfold ql_.f
 repeat' first
   | (with_reducible exact ih0 _ _ _ _ _ _)
   | (with_reducible exact qe1_.mono _ _ _)
   | (with_reducible exact qr1_.mono _ _ _ _)
   | (with_reducible exact LeO.refl _)
   | (with_reducible exact LeO.none _)
   | (with_reducible refine LeO.ite ?_ ?_)
   | (with_reducible refine LeO.bind ?_ (fun _=>?_))
   | exact ih0 _ _ _ _ _ _
   | exact qe1_.mono _ _ _
   | exact qr1_.mono _ _ _ _
   | exact LeO.none _
   | refine LeO.ite ?_ ?_
   | refine LeO.bind ?_ (fun _=>?_)
def ql_.T4:Bool × List (List Nat × List Nat):=(true,[([],[]),([],[]),([1],[1]),([],[]),([0,2,3],[0,2,3]),([4],[4]),([5,4],[5]),([6],[6]),([7,6],[6,7]),([8,6,6],[6,8]),([9,6],[6,9]),([6,10],[6,10]),([11,9],[11]),([12],[12]),([13,12],[12,13]),([14,12],[12,14]),([15,12],[12,15]),([12,16],[12,16]),([17,12],[17]),([18],[18]),([19,18],[18,19]),([20,18,18],[18,20]),([21],[21]),([21],[21]),([23,21],[21,23]),([22,24,21],[21,22,24]),([25,21],[21,25]),([26,21],[21,26]),([21],[21]),([28,21],[21,28]),([27,29,21,21],[21,27,29]),([30,21],[21,30]),([21,31,18],[18,21,31]),([18,32],[18,32])])
def ql_.B4:List Nat:=[0,0,2,0,15,31,63,127,255,511,1023,2047,4095,8191,16383,32767,65535,131071,262143,524287,1048575,2097151,4194303,4194303,12582911,33554431,67108863,134217727,4194303,272629759,1073741823,2147483647,4294967295,8589934591]
theorem ql_.tab4:rtab .any (opsOf Try.f154 4)=ql_.T4:=by kernel_rfl
theorem ql_.bits4:waitsOk ql_.T4.2 ql_.B4=true:=by kernel_rfl
abbrev ql_.m0:Array Bool:=#[tT,fF,fF,fF,fF,fF,fF,fF,fF,fF,fF,fF,fF,fF,fF,fF,fF,fF,fF,fF,fF,fF,fF,fF,fF,fF,fF,fF,fF,fF,fF,fF,fF,fF]
abbrev ql_.m1:Array Bool:=#[tT,tT,fF,fF,fF,fF,fF,fF,fF,fF,fF,fF,fF,fF,fF,fF,fF,fF,fF,fF,fF,fF,fF,fF,fF,fF,fF,fF,fF,fF,fF,fF,fF,fF]
abbrev ql_.m2:Array Bool:=#[tT,tT,fF,tT,fF,fF,fF,fF,fF,fF,fF,fF,fF,fF,fF,fF,fF,fF,fF,fF,fF,fF,fF,fF,fF,fF,fF,fF,fF,fF,fF,fF,fF,fF]
abbrev ql_.m3:Array Bool:=#[tT,tT,tT,tT,fF,fF,fF,fF,fF,fF,fF,fF,fF,fF,fF,fF,fF,fF,fF,fF,fF,fF,fF,fF,fF,fF,fF,fF,fF,fF,fF,fF,fF,fF]
abbrev ql_.m4:Array Bool:=#[tT,tT,tT,tT,tT,fF,fF,fF,fF,fF,fF,fF,fF,fF,fF,fF,fF,fF,fF,fF,fF,fF,fF,fF,fF,fF,fF,fF,fF,fF,fF,fF,fF,fF]
abbrev ql_.m5:Array Bool:=#[tT,tT,tT,tT,tT,tT,fF,fF,fF,fF,fF,fF,fF,fF,fF,fF,fF,fF,fF,fF,fF,fF,fF,fF,fF,fF,fF,fF,fF,fF,fF,fF,fF,fF]
abbrev ql_.m6:Array Bool:=#[tT,tT,tT,tT,tT,tT,tT,fF,fF,fF,fF,fF,fF,fF,fF,fF,fF,fF,fF,fF,fF,fF,fF,fF,fF,fF,fF,fF,fF,fF,fF,fF,fF,fF]
abbrev ql_.m7:Array Bool:=#[tT,tT,tT,tT,tT,tT,tT,tT,fF,fF,fF,fF,fF,fF,fF,fF,fF,fF,fF,fF,fF,fF,fF,fF,fF,fF,fF,fF,fF,fF,fF,fF,fF,fF]
abbrev ql_.m8:Array Bool:=#[tT,tT,tT,tT,tT,tT,tT,tT,tT,fF,fF,fF,fF,fF,fF,fF,fF,fF,fF,fF,fF,fF,fF,fF,fF,fF,fF,fF,fF,fF,fF,fF,fF,fF]
abbrev ql_.m9:Array Bool:=#[tT,tT,tT,tT,tT,tT,tT,tT,tT,tT,fF,fF,fF,fF,fF,fF,fF,fF,fF,fF,fF,fF,fF,fF,fF,fF,fF,fF,fF,fF,fF,fF,fF,fF]
abbrev ql_.m10:Array Bool:=#[tT,tT,tT,tT,tT,tT,tT,tT,tT,tT,tT,fF,fF,fF,fF,fF,fF,fF,fF,fF,fF,fF,fF,fF,fF,fF,fF,fF,fF,fF,fF,fF,fF,fF]
abbrev ql_.m11:Array Bool:=#[tT,tT,tT,tT,tT,tT,tT,tT,tT,tT,tT,tT,fF,fF,fF,fF,fF,fF,fF,fF,fF,fF,fF,fF,fF,fF,fF,fF,fF,fF,fF,fF,fF,fF]
abbrev ql_.m12:Array Bool:=#[tT,tT,tT,tT,tT,tT,tT,tT,tT,tT,tT,tT,tT,fF,fF,fF,fF,fF,fF,fF,fF,fF,fF,fF,fF,fF,fF,fF,fF,fF,fF,fF,fF,fF]
abbrev ql_.m13:Array Bool:=#[tT,tT,tT,tT,tT,tT,tT,tT,tT,tT,tT,tT,tT,tT,fF,fF,fF,fF,fF,fF,fF,fF,fF,fF,fF,fF,fF,fF,fF,fF,fF,fF,fF,fF]
abbrev ql_.m14:Array Bool:=#[tT,tT,tT,tT,tT,tT,tT,tT,tT,tT,tT,tT,tT,tT,tT,fF,fF,fF,fF,fF,fF,fF,fF,fF,fF,fF,fF,fF,fF,fF,fF,fF,fF,fF]
abbrev ql_.m15:Array Bool:=#[tT,tT,tT,tT,tT,tT,tT,tT,tT,tT,tT,tT,tT,tT,tT,tT,fF,fF,fF,fF,fF,fF,fF,fF,fF,fF,fF,fF,fF,fF,fF,fF,fF,fF]
abbrev ql_.m16:Array Bool:=#[tT,tT,tT,tT,tT,tT,tT,tT,tT,tT,tT,tT,tT,tT,tT,tT,tT,fF,fF,fF,fF,fF,fF,fF,fF,fF,fF,fF,fF,fF,fF,fF,fF,fF]
abbrev ql_.m17:Array Bool:=#[tT,tT,tT,tT,tT,tT,tT,tT,tT,tT,tT,tT,tT,tT,tT,tT,tT,tT,fF,fF,fF,fF,fF,fF,fF,fF,fF,fF,fF,fF,fF,fF,fF,fF]
abbrev ql_.m18:Array Bool:=#[tT,tT,tT,tT,tT,tT,tT,tT,tT,tT,tT,tT,tT,tT,tT,tT,tT,tT,tT,fF,fF,fF,fF,fF,fF,fF,fF,fF,fF,fF,fF,fF,fF,fF]
abbrev ql_.m19:Array Bool:=#[tT,tT,tT,tT,tT,tT,tT,tT,tT,tT,tT,tT,tT,tT,tT,tT,tT,tT,tT,tT,fF,fF,fF,fF,fF,fF,fF,fF,fF,fF,fF,fF,fF,fF]
abbrev ql_.m20:Array Bool:=#[tT,tT,tT,tT,tT,tT,tT,tT,tT,tT,tT,tT,tT,tT,tT,tT,tT,tT,tT,tT,tT,fF,fF,fF,fF,fF,fF,fF,fF,fF,fF,fF,fF,fF]
abbrev ql_.m21:Array Bool:=#[tT,tT,tT,tT,tT,tT,tT,tT,tT,tT,tT,tT,tT,tT,tT,tT,tT,tT,tT,tT,tT,tT,fF,fF,fF,fF,fF,fF,fF,fF,fF,fF,fF,fF]
abbrev ql_.m22:Array Bool:=#[tT,tT,tT,tT,tT,tT,tT,tT,tT,tT,tT,tT,tT,tT,tT,tT,tT,tT,tT,tT,tT,tT,tT,fF,fF,fF,fF,fF,fF,fF,fF,fF,fF,fF]
abbrev ql_.m23:Array Bool:=#[tT,tT,tT,tT,tT,tT,tT,tT,tT,tT,tT,tT,tT,tT,tT,tT,tT,tT,tT,tT,tT,tT,tT,tT,fF,fF,fF,fF,fF,fF,fF,fF,fF,fF]
abbrev ql_.m24:Array Bool:=#[tT,tT,tT,tT,tT,tT,tT,tT,tT,tT,tT,tT,tT,tT,tT,tT,tT,tT,tT,tT,tT,tT,tT,tT,tT,fF,fF,fF,fF,fF,fF,fF,fF,fF]
abbrev ql_.m25:Array Bool:=#[tT,tT,tT,tT,tT,tT,tT,tT,tT,tT,tT,tT,tT,tT,tT,tT,tT,tT,tT,tT,tT,tT,tT,tT,tT,tT,fF,fF,fF,fF,fF,fF,fF,fF]
abbrev ql_.m26:Array Bool:=#[tT,tT,tT,tT,tT,tT,tT,tT,tT,tT,tT,tT,tT,tT,tT,tT,tT,tT,tT,tT,tT,tT,tT,tT,tT,tT,tT,fF,fF,fF,fF,fF,fF,fF]
abbrev ql_.m27:Array Bool:=#[tT,tT,tT,tT,tT,tT,tT,tT,tT,tT,tT,tT,tT,tT,tT,tT,tT,tT,tT,tT,tT,tT,tT,tT,tT,tT,tT,fF,tT,fF,fF,fF,fF,fF]
abbrev ql_.m28:Array Bool:=#[tT,tT,tT,tT,tT,tT,tT,tT,tT,tT,tT,tT,tT,tT,tT,tT,tT,tT,tT,tT,tT,tT,tT,tT,tT,tT,tT,tT,tT,fF,fF,fF,fF,fF]
abbrev ql_.m29:Array Bool:=#[tT,tT,tT,tT,tT,tT,tT,tT,tT,tT,tT,tT,tT,tT,tT,tT,tT,tT,tT,tT,tT,tT,tT,tT,tT,tT,tT,tT,tT,tT,fF,fF,fF,fF]
abbrev ql_.m30:Array Bool:=#[tT,tT,tT,tT,tT,tT,tT,tT,tT,tT,tT,tT,tT,tT,tT,tT,tT,tT,tT,tT,tT,tT,tT,tT,tT,tT,tT,tT,tT,tT,tT,fF,fF,fF]
abbrev ql_.m31:Array Bool:=#[tT,tT,tT,tT,tT,tT,tT,tT,tT,tT,tT,tT,tT,tT,tT,tT,tT,tT,tT,tT,tT,tT,tT,tT,tT,tT,tT,tT,tT,tT,tT,tT,fF,fF]
abbrev ql_.m32:Array Bool:=#[tT,tT,tT,tT,tT,tT,tT,tT,tT,tT,tT,tT,tT,tT,tT,tT,tT,tT,tT,tT,tT,tT,tT,tT,tT,tT,tT,tT,tT,tT,tT,tT,tT,fF]
abbrev ql_.m33:Array Bool:=#[tT,tT,tT,tT,tT,tT,tT,tT,tT,tT,tT,tT,tT,tT,tT,tT,tT,tT,tT,tT,tT,tT,tT,tT,tT,tT,tT,tT,tT,tT,tT,tT,tT,tT]
abbrev ql_.mz:Array Bool:=#[fF,fF,fF,fF,fF,fF,fF,fF,fF,fF,fF,fF,fF,fF,fF,fF,fF,fF,fF,fF,fF,fF,fF,fF,fF,fF,fF,fF,fF,fF,fF,fF,fF,fF]
set_option maxHeartbeats 16000000 in
set_option maxRecDepth 100000 in
theorem ql_.calls (k:Nat) (a0:Int) (a1:Int) (A2:Option Addr) (c2:Nat) (l2:List (S79)) (r:Bool) (w:World) (hr2:Kd.C k79 w A2 l2.length l2) (hc2:l2.length≤c2) (h:ql_.f k a0 a1 l2=some r) :
  Calls Try.prog 154 #[.int .i64 a0,.int .i64 a1,.slice A2 l2.length c2] w fun e w'=>e=.returned (.bool r)∧Below w.heap.size w w':=by
 have hu79:=Try.underlying79
 have hu77:=Try.underlying77
 have HR2:=aK hr2
 clear hr2
 have HB:=aK (Below.refl w.heap.size w)
 have H:(ql_.l0 k a0 a1 l2 l2 (l2.length:Int) 0)=some r:=h
 clear h
 have H':=aK H
 clear H
 go_enter Try.func154,Try.ntmps154
 go_wp2
 go_loopg [11] k (fun kq v11 w'=>∃ (x:Int),v11=.int .i64 x∧Aside0 (ql_.l0 kq a0 a1 l2 l2 (l2.length:Int) x=some r)∧Aside0 (kq≤k)∧Aside0 (Below w.heap.size w w'))
 case atStart=>exact ⟨0,rfl,H',⟨Nat.le_refl _⟩,HB⟩
 case round =>
  clear H' HB
  obtain ⟨x,rfl,HA,HK1,HB⟩:=hrel
  cases gk with
  | zero=>exact absurd HA.out (by simp [ql_.l0])
  | succ k1 =>
   have H:=HA.out
   clear HA
   simp only [ql_.l0] at H
   by_cases c4:x < (l2.length:Int)
   ·rw [if_pos c4] at H
    by_cases c5:0≤x
    ·rw [if_pos c5,if_pos c4] at H
     obtain ⟨ad,rfl,x0,x1,x2⟩:=at_T79 (Kd.qv1_ HR2.out HB.out) x c5 c4
     have AX:=aK (fun (j:Int) (h0:0≤j) (h1:j < (l2.length:Int))=>at_T79 HR2.out j h0 h1)
     obtain ⟨X,hX⟩:∃ X,X=rd_T79 l2 x:=⟨_,rfl⟩
     rw [← hX] at H x0 x1 x2
     obtain ⟨b1,A70,H⟩:=Option.bind_eq_some_iff.mp H
     have A7:=aK A70
     have HL:(b1=false∧r=false) ∨ (b1=true∧∃ b2,qe1_.f k1 X.f1.f0 X.f1.f1=some b2∧((b2=false∧r=false) ∨ (b2=true∧((X.f1.f0=0∧r=false) ∨ (X.f1.f0 ≠ 0∧((0 < x∧∃ j:Int,j=wrap64 (x - 1)∧0≤j∧j < (l2.length:Int)∧∃ tc,qr2_.f (rd_T79 l2 j).f0 X.f0=some tc∧((0≤tc∧r=false) ∨ (¬ 0≤tc∧ql_.l0 k1 a0 a1 l2 l2 (l2.length:Int) (wrap64 (x+1))=some r))) ∨ (¬ 0 < x∧ql_.l0 k1 a0 a1 l2 l2 (l2.length:Int) (wrap64 (x+1))=some r))))))):=by
      cases b1 with
      | false=>left;rw [if_neg (by decide)] at H;exact ⟨rfl,(Option.some.inj H).symm⟩
      | true =>
       right
       rw [if_pos rfl] at H
       obtain ⟨b2,A9,H⟩:=Option.bind_eq_some_iff.mp H
       refine ⟨rfl,b2,A9,?_⟩
       cases b2 with
       | false=>left;rw [if_neg (by decide)] at H;exact ⟨rfl,(Option.some.inj H).symm⟩
       | true =>
        right
        rw [if_pos rfl] at H
        refine ⟨rfl,?_⟩
        by_cases z:X.f1.f0=0
        ·left;rw [if_pos z] at H;exact ⟨z,(Option.some.inj H).symm⟩
        ·right
         rw [if_neg z] at H
         refine ⟨z,?_⟩
         by_cases y:0 < x
         ·left
          rw [if_pos y] at H
          by_cases y0:0≤wrap64 (x - 1)
          ·rw [if_pos y0] at H
           by_cases y1:wrap64 (x - 1) < (l2.length:Int)
           ·rw [if_pos y1] at H
            obtain ⟨tc,A,H⟩:=Option.bind_eq_some_iff.mp H
            refine ⟨y,_,rfl,y0,y1,tc,A,?_⟩
            by_cases q:0≤tc
            ·left;rw [if_pos q] at H;exact ⟨q,(Option.some.inj H).symm⟩
            ·right;rw [if_neg q] at H;exact ⟨q,H⟩
           ·rw [if_neg y1] at H;cases H
          ·rw [if_neg y0] at H;cases H
         ·right;rw [if_neg y] at H;exact ⟨y,H⟩
     replace HL:=aK HL
     clear H A70 hX
     go_wp2
     generalize hW:World.alloc _ _=w5
     have BK:=aK (show w5.heap[wr.heap.size]?=some (.cells #[.string X.f0,.int .i64 X.f1.f0,.int .i64 X.f1.f1] 79 (0,0)) from by rw [← hW];exact new_at rfl)
     have HBW:=aK (show Below w.heap.size w w5 from by rw [← hW];exact qb_ HB.out _)
     clear hW x0 x1 x2 HB
     obtain ⟨gb,hgb⟩:∃ g,g=wr.heap.size:=⟨_,rfl⟩
     rw [← hgb] at BK ⊢
     clear hgb
     rcases HL.out with ⟨rfl,rfl⟩|⟨rfl,b2,A90,⟨rfl,rfl⟩|⟨rfl,⟨z,rfl⟩|⟨z,⟨y,j,hj,y0,y1,tc,A210,⟨q,rfl⟩|⟨q,HN⟩⟩|⟨y,HN⟩⟩⟩⟩
     all_goals
      clear HL
      try (have A9:=aK A90;clear A90)
      try (have HN':=aK HN;clear HN)
      try (have A21:=aK A210;clear A210)
      try (have zb:(X.f1.f0 == 0)=true:=beq_iff_eq.2 z)
      try (have zb:(X.f1.f0 == 0)=false:=beq_eq_false_iff_ne.2 z)
      try (have yb:decide (0 < x)=true:=decide_eq_true y)
      try (have yb:decide (0 < x)=false:=decide_eq_false_iff_not.2 (Int.not_lt.2 y))
      try (have qb:decide (0≤tc)=true:=decide_eq_true q)
      try (have qb:decide (0≤tc)=false:=decide_eq_false_iff_not.2 (Int.not_le.2 q))
      try clear z
      try clear y
      try clear q
      try (obtain ⟨ad',e',y_0,_,_⟩:=AX.out j y0 y1;cases e';obtain ⟨Y,hY⟩:∃ Y,Y=rd_T79 l2 j:=⟨_,rfl⟩;rw [← hY] at y_0 A21;have PY:=aK ((HBW.out.cell (World.block_lt_of_cell? w _ y_0)).trans y_0);clear hY y_0;have hj2:wrap64 (x - 1)=j:=hj.symm;clear hj)
      clear AX
      (first
       | refine start_ (n:=34) (S:=fun w'=>w'.cell? ⟨gb,0,none⟩=some (.string X.f0)∧w'.cell? ⟨gb,1,none⟩=some (.int .i64 X.f1.f0)∧w'.cell? ⟨gb,2,none⟩=some (.int .i64 X.f1.f1)∧w'.cell? (ad.add (j.toNat * 3))=some (.string Y.f0)) (ds:=[]) ql_.mz (by kernel_rfl) rfl rfl ⟨(qg_ BK.out 0).trans rfl,(qg_ BK.out 1).trans rfl,(qg_ BK.out 2).trans rfl,PY.out⟩ (fun hHeld=>?_)
       | refine start_ (n:=34) (S:=fun w'=>w'.cell? ⟨gb,0,none⟩=some (.string X.f0)∧w'.cell? ⟨gb,1,none⟩=some (.int .i64 X.f1.f0)∧w'.cell? ⟨gb,2,none⟩=some (.int .i64 X.f1.f1)) (ds:=[]) ql_.mz (by kernel_rfl) rfl rfl ⟨(qg_ BK.out 0).trans rfl,(qg_ BK.out 1).trans rfl,(qg_ BK.out 2).trans rfl⟩ (fun hHeld=>?_))
      refine with_tabW ql_.tab4 ql_.bits4 (fun HT_ HW_=>?_)
      replace BK:=aK (qi_ BK.out)
      have HBR:=aK (qc_ (Below.refl w5.heap.size w5))
      generalize w5.drew=w6 at BK HBR hHeld ⊢
     all_goals (refine pure_ (i:=0) (N:=some 16) (v:=?_) (a':=?_) ql_.m0 rfl rfl (any_of HT_.out (by kernel_rfl)) (fun _ _ _ h=>h) (Or.inl ⟨?_,?_⟩) ?_ ?_;rotate_left;(· rfl);(· intro w';go_simp;with_reducible rfl);rotate_left;(· simp only [Act.put,List.setIfInBounds_toArray,List.set_cons_zero,List.set_cons_succ,i64_w,i32_w];rfl))
     all_goals (refine pure_ (i:=1) (N:=some 17) (v:=?_) (a':=?_) ql_.m1 rfl rfl (any_of HT_.out (by kernel_rfl)) (fun _ _ _ h=>h) (Or.inl ⟨?_,?_⟩) ?_ ?_;rotate_left;(· rfl);(· intro w';go_simp;with_reducible rfl);rotate_left;(· simp only [Act.put,List.setIfInBounds_toArray,List.set_cons_zero,List.set_cons_succ,i64_w,i32_w];rfl))
     all_goals (refine pure_ (i:=3) (N:=some 19) (v:=?_) (a':=?_) ql_.m2 rfl rfl (any_of HT_.out (by kernel_rfl)) (fun _ _ _ h=>h) (Or.inl ⟨?_,?_⟩) ?_ ?_;rotate_left;(· rfl);(· intro w';go_simp;with_reducible rfl);rotate_left;(· simp only [Act.put,List.setIfInBounds_toArray,List.set_cons_zero,List.set_cons_succ,i64_w,i32_w];rfl))
     all_goals (refine take_ (i:=2) (N:=some 18) (v:=?_) (a':=?_) ql_.m3 rfl rfl (take_ofW HT_.out HW_.out (by kernel_rfl)) (fun _ _ _ h=>h) (Or.inl ⟨?_,?_⟩) hHeld ?_ ?_;rotate_left;(· rfl);(· (first|rintro w' ⟨s0,s1,s2,s3⟩|rintro w' ⟨s0,s1,s2⟩);go_simp;with_reducible rfl);rotate_left;(· simp only [Act.put,List.setIfInBounds_toArray,List.set_cons_zero,List.set_cons_succ,i64_w,i32_w];rfl))
     all_goals (refine one_ (i:=4) (N:=some 20) ql_.m4 rfl rfl (one_of HT_.out (by kernel_rfl)) (by decide) (fun K hK=>?_);refine goes_ Try.func139 (by kernel_rfl) rfl #[.int .i64 a0,.string X.f0,.int .i64 a1] ?_ rfl rfl ?_ ?_;(· rfl);(· (try simp only [List.map_toArray,List.map_cons,List.map_nil]);first|done|rfl);(with_reducible refine (qr1_.calls k1 a0 X.f0 a1 _ _ A7.out).mono ?_);rintro e w' ⟨rfl,⟨nd,rfl⟩⟩;refine ⟨_,rfl,?_⟩;refine hK.out _ _ ?_ (fun hHeld=>?_);(· (first|exact ⟨(qg_ BK.out 0).trans rfl,(qg_ BK.out 1).trans rfl,(qg_ BK.out 2).trans rfl,qq_ HBR.out PY.out⟩|exact ⟨(qg_ BK.out 0).trans rfl,(qg_ BK.out 1).trans rfl,(qg_ BK.out 2).trans rfl⟩));clear hK K;refine norm_ (a':=?_) ?_ ?_;rotate_left;(· show Act.put _ (some 20) _=_;simp only [Act.put,List.setIfInBounds_toArray,List.set_cons_zero,List.set_cons_succ,i64_w,i32_w];rfl))
     all_goals (refine pure_ (i:=5) (N:=some 21) (v:=?_) (a':=?_) ql_.m5 rfl rfl (any_of HT_.out (by kernel_rfl)) (fun _ _ _ h=>h) (Or.inl ⟨?_,?_⟩) ?_ ?_;rotate_left;(· rfl);(· intro w';go_simp;with_reducible rfl);rotate_left;(· simp only [Act.put,List.setIfInBounds_toArray,List.set_cons_zero,List.set_cons_succ,i64_w,i32_w];rfl))
     all_goals (refine pure_ (i:=6) (N:=some 22) (v:=?_) (a':=?_) ql_.m6 rfl rfl (any_of HT_.out (by kernel_rfl)) (fun _ _ _ h=>h) (Or.inl ⟨?_,?_⟩) ?_ ?_;rotate_left;(· rfl);(· intro w';go_simp;with_reducible rfl);rotate_left;(· simp only [Act.put,List.setIfInBounds_toArray,List.set_cons_zero,List.set_cons_succ,i64_w,i32_w];rfl))
     all_goals (first
      | (refine pure_ (i:=7) (N:=some 23) (v:=undef) (a':=?_) ql_.m7 rfl rfl (any_of HT_.out (by kernel_rfl)) (fun _ _ _ h=>h) (Or.inr ⟨?_,rfl⟩) ?_ ?_;(· rfl);rotate_left;(· simp only [Act.put,List.setIfInBounds_toArray,List.set_cons_zero,List.set_cons_succ,i64_w,i32_w];rfl))
      | (refine pure_ (i:=7) (N:=some 23) (v:=?_) (a':=?_) ql_.m7 rfl rfl (any_of HT_.out (by kernel_rfl)) (fun _ _ _ h=>h) (Or.inl ⟨?_,?_⟩) ?_ ?_;rotate_left;(· rfl);(· intro w';go_simp;with_reducible rfl);rotate_left;(· simp only [Act.put,List.setIfInBounds_toArray,List.set_cons_zero,List.set_cons_succ,i64_w,i32_w];rfl)))
     all_goals (first
      | (refine pure_ (i:=8) (N:=some 24) (v:=undef) (a':=?_) ql_.m8 rfl rfl (any_of HT_.out (by kernel_rfl)) (fun _ _ _ h=>h) (Or.inr ⟨?_,rfl⟩) ?_ ?_;(· rfl);rotate_left;(· simp only [Act.put,List.setIfInBounds_toArray,List.set_cons_zero,List.set_cons_succ,i64_w,i32_w];rfl))
      | (refine take_ (i:=8) (N:=some 24) (v:=?_) (a':=?_) ql_.m8 rfl rfl (take_ofW HT_.out HW_.out (by kernel_rfl)) (fun _ _ _ h=>h) (Or.inl ⟨?_,?_⟩) hHeld ?_ ?_;rotate_left;(· rfl);(· (first|rintro w' ⟨s0,s1,s2,s3⟩|rintro w' ⟨s0,s1,s2⟩);go_simp;with_reducible rfl);rotate_left;(· simp only [Act.put,List.setIfInBounds_toArray,List.set_cons_zero,List.set_cons_succ,i64_w,i32_w];rfl)))
     all_goals (first
      | (refine pure_ (i:=9) (N:=some 25) (v:=undef) (a':=?_) ql_.m9 rfl rfl (any_of HT_.out (by kernel_rfl)) (fun _ _ _ h=>h) (Or.inr ⟨?_,rfl⟩) ?_ ?_;(· rfl);rotate_left;(· simp only [Act.put,List.setIfInBounds_toArray,List.set_cons_zero,List.set_cons_succ,i64_w,i32_w];rfl))
      | (refine one_ (i:=9) (N:=some 25) ql_.m9 rfl rfl (one_of HT_.out (by kernel_rfl)) (by decide) (fun K hK=>?_);refine goes_ Try.func206 (by kernel_rfl) rfl #[.agg #[.int .i64 X.f1.f0,.int .i64 X.f1.f1]] ?_ rfl rfl ?_ ?_;(· rfl);(· (try simp only [List.map_toArray,List.map_cons,List.map_nil]);first|done|rfl);(with_reducible refine (qe1_.calls k1 X.f1.f0 X.f1.f1 _ _ A9.out).mono ?_);rintro e w' ⟨rfl,hb⟩;refine ⟨_,rfl,?_⟩;have n0_:=aK (qm_ (show _=some (.cells #[.string X.f0,.int .i64 X.f1.f0,.int .i64 X.f1.f1] 79 (0,0)) from by (with_reducible repeat (first|refine qf_ ?_ _|refine qi_ ?_));exact BK.out) hb);have n1_:=aK (qj_ (by repeat (first|(with_reducible exact HBR.out)|(with_reducible apply qa_)|(with_reducible apply qc_))) hb);clear BK HBR;have BK:=n0_;have HBR:=n1_;clear n0_ n1_ hb;refine hK.out _ _ ?_ (fun hHeld=>?_);(· (first|exact ⟨(qg_ BK.out 0).trans rfl,(qg_ BK.out 1).trans rfl,(qg_ BK.out 2).trans rfl,qq_ HBR.out PY.out⟩|exact ⟨(qg_ BK.out 0).trans rfl,(qg_ BK.out 1).trans rfl,(qg_ BK.out 2).trans rfl⟩));clear hK K;refine norm_ (a':=?_) ?_ ?_;rotate_left;(· show Act.put _ (some 25) _=_;simp only [Act.put,List.setIfInBounds_toArray,List.set_cons_zero,List.set_cons_succ,i64_w,i32_w];rfl)))
     all_goals (first
      | (refine pure_ (i:=10) (N:=some 26) (v:=undef) (a':=?_) ql_.m10 rfl rfl (any_of HT_.out (by kernel_rfl)) (fun _ _ _ h=>h) (Or.inr ⟨?_,rfl⟩) ?_ ?_;(· rfl);rotate_left;(· simp only [Act.put,List.setIfInBounds_toArray,List.set_cons_zero,List.set_cons_succ,i64_w,i32_w];rfl))
      | (refine pure_ (i:=10) (N:=some 26) (v:=?_) (a':=?_) ql_.m10 rfl rfl (any_of HT_.out (by kernel_rfl)) (fun _ _ _ h=>h) (Or.inl ⟨?_,?_⟩) ?_ ?_;rotate_left;(· rfl);(· intro w';go_simp;with_reducible rfl);rotate_left;(· simp only [Act.put,List.setIfInBounds_toArray,List.set_cons_zero,List.set_cons_succ,i64_w,i32_w];rfl)))
     all_goals (refine pure_ (i:=11) (N:=some 27) (v:=?_) (a':=?_) ql_.m11 rfl rfl (any_of HT_.out (by kernel_rfl)) (fun _ _ _ h=>h) (Or.inl ⟨?_,?_⟩) ?_ ?_;rotate_left;(· rfl);(· intro w';go_simp;with_reducible rfl);rotate_left;(· simp only [Act.put,List.setIfInBounds_toArray,List.set_cons_zero,List.set_cons_succ,i64_w,i32_w];rfl))
     all_goals (refine pure_ (i:=12) (N:=some 28) (v:=?_) (a':=?_) ql_.m12 rfl rfl (any_of HT_.out (by kernel_rfl)) (fun _ _ _ h=>h) (Or.inl ⟨?_,?_⟩) ?_ ?_;rotate_left;(· rfl);(· intro w';go_simp;with_reducible rfl);rotate_left;(· simp only [Act.put,List.setIfInBounds_toArray,List.set_cons_zero,List.set_cons_succ,i64_w,i32_w];rfl))
     all_goals (first
      | (refine pure_ (i:=13) (N:=some 29) (v:=undef) (a':=?_) ql_.m13 rfl rfl (any_of HT_.out (by kernel_rfl)) (fun _ _ _ h=>h) (Or.inr ⟨?_,rfl⟩) ?_ ?_;(· rfl);rotate_left;(· simp only [Act.put,List.setIfInBounds_toArray,List.set_cons_zero,List.set_cons_succ,i64_w,i32_w];rfl))
      | (refine pure_ (i:=13) (N:=some 29) (v:=?_) (a':=?_) ql_.m13 rfl rfl (any_of HT_.out (by kernel_rfl)) (fun _ _ _ h=>h) (Or.inl ⟨?_,?_⟩) ?_ ?_;rotate_left;(· rfl);(· intro w';go_simp;with_reducible rfl);rotate_left;(· simp only [Act.put,List.setIfInBounds_toArray,List.set_cons_zero,List.set_cons_succ,i64_w,i32_w];rfl)))
     all_goals (first
      | (refine pure_ (i:=14) (N:=some 30) (v:=undef) (a':=?_) ql_.m14 rfl rfl (any_of HT_.out (by kernel_rfl)) (fun _ _ _ h=>h) (Or.inr ⟨?_,rfl⟩) ?_ ?_;(· rfl);rotate_left;(· simp only [Act.put,List.setIfInBounds_toArray,List.set_cons_zero,List.set_cons_succ,i64_w,i32_w];rfl))
      | (refine pure_ (i:=14) (N:=some 30) (v:=?_) (a':=?_) ql_.m14 rfl rfl (any_of HT_.out (by kernel_rfl)) (fun _ _ _ h=>h) (Or.inl ⟨?_,?_⟩) ?_ ?_;rotate_left;(· rfl);(· intro w';go_simp;with_reducible rfl);rotate_left;(· simp only [Act.put,List.setIfInBounds_toArray,List.set_cons_zero,List.set_cons_succ,i64_w,i32_w];rfl)))
     all_goals (first
      | (refine pure_ (i:=15) (N:=some 31) (v:=undef) (a':=?_) ql_.m15 rfl rfl (any_of HT_.out (by kernel_rfl)) (fun _ _ _ h=>h) (Or.inr ⟨?_,rfl⟩) ?_ ?_;(· rfl);rotate_left;(· simp only [Act.put,List.setIfInBounds_toArray,List.set_cons_zero,List.set_cons_succ,i64_w,i32_w];rfl))
      | (refine take_ (i:=15) (N:=some 31) (v:=?_) (a':=?_) ql_.m15 rfl rfl (take_ofW HT_.out HW_.out (by kernel_rfl)) (fun _ _ _ h=>h) (Or.inl ⟨?_,?_⟩) hHeld ?_ ?_;rotate_left;(· rfl);(· (first|rintro w' ⟨s0,s1,s2,s3⟩|rintro w' ⟨s0,s1,s2⟩);go_simp;with_reducible rfl);rotate_left;(· simp only [Act.put,List.setIfInBounds_toArray,List.set_cons_zero,List.set_cons_succ,i64_w,i32_w];rfl)))
     all_goals (first
      | (refine pure_ (i:=16) (N:=some 32) (v:=undef) (a':=?_) ql_.m16 rfl rfl (any_of HT_.out (by kernel_rfl)) (fun _ _ _ h=>h) (Or.inr ⟨?_,rfl⟩) ?_ ?_;(· rfl);rotate_left;(· simp only [Act.put,List.setIfInBounds_toArray,List.set_cons_zero,List.set_cons_succ,i64_w,i32_w];rfl))
      | (refine pure_ (i:=16) (N:=some 32) (v:=?_) (a':=?_) ql_.m16 rfl rfl (any_of HT_.out (by kernel_rfl)) (fun _ _ _ h=>h) (Or.inl ⟨?_,?_⟩) ?_ ?_;rotate_left;(· rfl);(· intro w';go_simp;with_reducible rfl);rotate_left;(· simp only [Act.put,List.setIfInBounds_toArray,List.set_cons_zero,List.set_cons_succ,i64_w,i32_w];rfl)))
     all_goals (refine pure_ (i:=17) (N:=some 33) (v:=?_) (a':=?_) ql_.m17 rfl rfl (any_of HT_.out (by kernel_rfl)) (fun _ _ _ h=>h) (Or.inl ⟨?_,?_⟩) ?_ ?_;rotate_left;(· rfl);(· intro w';go_simp;with_reducible rfl);rotate_left;(· simp only [Act.put,List.setIfInBounds_toArray,List.set_cons_zero,List.set_cons_succ,i64_w,i32_w];rfl))
     all_goals (refine pure_ (i:=18) (N:=some 34) (v:=?_) (a':=?_) ql_.m18 rfl rfl (any_of HT_.out (by kernel_rfl)) (fun _ _ _ h=>h) (Or.inl ⟨?_,?_⟩) ?_ ?_;rotate_left;(· rfl);(· intro w';go_simp;with_reducible rfl);rotate_left;(· simp only [Act.put,List.setIfInBounds_toArray,List.set_cons_zero,List.set_cons_succ,i64_w,i32_w];rfl))
     all_goals (first
      | (refine pure_ (i:=19) (N:=some 35) (v:=undef) (a':=?_) ql_.m19 rfl rfl (any_of HT_.out (by kernel_rfl)) (fun _ _ _ h=>h) (Or.inr ⟨?_,rfl⟩) ?_ ?_;(· rfl);rotate_left;(· simp only [Act.put,List.setIfInBounds_toArray,List.set_cons_zero,List.set_cons_succ,i64_w,i32_w];rfl))
      | (refine pure_ (i:=19) (N:=some 35) (v:=?_) (a':=?_) ql_.m19 rfl rfl (any_of HT_.out (by kernel_rfl)) (fun _ _ _ h=>h) (Or.inl ⟨?_,?_⟩) ?_ ?_;rotate_left;(· rfl);(· intro w';go_simp;with_reducible rfl);rotate_left;(· simp only [Act.put,List.setIfInBounds_toArray,List.set_cons_zero,List.set_cons_succ,i64_w,i32_w];rfl)))
     all_goals (first
      | (refine pure_ (i:=20) (N:=some 36) (v:=undef) (a':=?_) ql_.m20 rfl rfl (any_of HT_.out (by kernel_rfl)) (fun _ _ _ h=>h) (Or.inr ⟨?_,rfl⟩) ?_ ?_;(· rfl);rotate_left;(· simp only [Act.put,List.setIfInBounds_toArray,List.set_cons_zero,List.set_cons_succ,i64_w,i32_w];rfl))
      | (refine pure_ (i:=20) (N:=some 36) (v:=?_) (a':=?_) ql_.m20 rfl rfl (any_of HT_.out (by kernel_rfl)) (fun _ _ _ h=>h) (Or.inl ⟨?_,?_⟩) ?_ ?_;rotate_left;(· rfl);(· intro w';go_simp;with_reducible rfl);rotate_left;(· simp only [Act.put,List.setIfInBounds_toArray,List.set_cons_zero,List.set_cons_succ,i64_w,i32_w];rfl)))
     all_goals (first
      | (refine pure_ (i:=21) (N:=some 37) (v:=undef) (a':=?_) ql_.m21 rfl rfl (any_of HT_.out (by kernel_rfl)) (fun _ _ _ h=>h) (Or.inr ⟨?_,rfl⟩) ?_ ?_;(· rfl);rotate_left;(· simp only [Act.put,List.setIfInBounds_toArray,List.set_cons_zero,List.set_cons_succ,i64_w,i32_w];rfl))
      | (refine pure_ (i:=21) (N:=some 37) (v:=?_) (a':=?_) ql_.m21 rfl rfl (any_of HT_.out (by kernel_rfl)) (fun _ _ _ h=>h) (Or.inl ⟨?_,?_⟩) ?_ ?_;rotate_left;(· rfl);(· intro w';go_simp;with_reducible rfl);rotate_left;(· simp only [Act.put,List.setIfInBounds_toArray,List.set_cons_zero,List.set_cons_succ,i64_w,i32_w];rfl)))
     all_goals (first
      | (refine pure_ (i:=22) (N:=some 38) (v:=undef) (a':=?_) ql_.m22 rfl rfl (any_of HT_.out (by kernel_rfl)) (fun _ _ _ h=>h) (Or.inr ⟨?_,rfl⟩) ?_ ?_;(· rfl);rotate_left;(· simp only [Act.put,List.setIfInBounds_toArray,List.set_cons_zero,List.set_cons_succ,i64_w,i32_w];rfl))
      | (refine pure_ (i:=22) (N:=some 38) (v:=?_) (a':=?_) ql_.m22 rfl rfl (any_of HT_.out (by kernel_rfl)) (fun _ _ _ h=>h) (Or.inl ⟨?_,?_⟩) ?_ ?_;rotate_left;(· rfl);(· intro w';go_simp;with_reducible rfl);rotate_left;(· simp only [Act.put,List.setIfInBounds_toArray,List.set_cons_zero,List.set_cons_succ,i64_w,i32_w];rfl)))
     all_goals (first
      | (refine pure_ (i:=23) (N:=some 39) (v:=undef) (a':=?_) ql_.m23 rfl rfl (any_of HT_.out (by kernel_rfl)) (fun _ _ _ h=>h) (Or.inr ⟨?_,rfl⟩) ?_ ?_;(· rfl);rotate_left;(· simp only [Act.put,List.setIfInBounds_toArray,List.set_cons_zero,List.set_cons_succ,i64_w,i32_w];rfl))
      | (refine pure_ (i:=23) (N:=some 39) (v:=?_) (a':=?_) ql_.m23 rfl rfl (any_of HT_.out (by kernel_rfl)) (fun _ _ _ h=>h) (Or.inl ⟨?_,?_⟩) ?_ ?_;rotate_left;(· rfl);(· intro w';go_simp;with_reducible rfl);rotate_left;(· simp only [Act.put,List.setIfInBounds_toArray,List.set_cons_zero,List.set_cons_succ,i64_w,i32_w];rfl)))
     all_goals (first
      | (refine pure_ (i:=24) (N:=some 40) (v:=undef) (a':=?_) ql_.m24 rfl rfl (any_of HT_.out (by kernel_rfl)) (fun _ _ _ h=>h) (Or.inr ⟨?_,rfl⟩) ?_ ?_;(· rfl);rotate_left;(· simp only [Act.put,List.setIfInBounds_toArray,List.set_cons_zero,List.set_cons_succ,i64_w,i32_w];rfl))
      | (refine pure_ (i:=24) (N:=some 40) (v:=?_) (a':=?_) ql_.m24 rfl rfl (any_of HT_.out (by kernel_rfl)) (fun _ _ _ h=>h) (Or.inl ⟨?_,?_⟩) ?_ ?_;rotate_left;(· rfl);(· intro w';go_simp;with_reducible rfl);rotate_left;(· simp only [Act.put,List.setIfInBounds_toArray,List.set_cons_zero,List.set_cons_succ,i64_w,i32_w];rfl)))
     all_goals (first
      | (refine pure_ (i:=25) (N:=some 41) (v:=undef) (a':=?_) ql_.m25 rfl rfl (any_of HT_.out (by kernel_rfl)) (fun _ _ _ h=>h) (Or.inr ⟨?_,rfl⟩) ?_ ?_;(· rfl);rotate_left;(· simp only [Act.put,List.setIfInBounds_toArray,List.set_cons_zero,List.set_cons_succ,i64_w,i32_w];rfl))
      | (refine pure_ (i:=25) (N:=some 41) (v:=?_) (a':=?_) ql_.m25 rfl rfl (any_of HT_.out (by kernel_rfl)) (fun _ _ _ h=>h) (Or.inl ⟨?_,?_⟩) ?_ ?_;rotate_left;(· rfl);(· intro w';go_simp;with_reducible rfl);rotate_left;(· simp only [Act.put,List.setIfInBounds_toArray,List.set_cons_zero,List.set_cons_succ,i64_w,i32_w];rfl)))
     all_goals (first
      | (refine pure_ (i:=26) (N:=some 42) (v:=undef) (a':=?_) ql_.m26 rfl rfl (any_of HT_.out (by kernel_rfl)) (fun _ _ _ h=>h) (Or.inr ⟨?_,rfl⟩) ?_ ?_;(· rfl);rotate_left;(· simp only [Act.put,List.setIfInBounds_toArray,List.set_cons_zero,List.set_cons_succ,i64_w,i32_w];rfl))
      | (refine pure_ (i:=26) (N:=some 42) (v:=?_) (a':=?_) ql_.m26 rfl rfl (any_of HT_.out (by kernel_rfl)) (fun _ _ _ h=>h) (Or.inl ⟨?_,?_⟩) ?_ ?_;rotate_left;(· rfl);(· intro w';go_simp;with_reducible rfl);rotate_left;(· simp only [Act.put,List.setIfInBounds_toArray,List.set_cons_zero,List.set_cons_succ,i64_w,i32_w];rfl)))
     all_goals (first
      | (refine pure_ (i:=28) (N:=some 44) (v:=undef) (a':=?_) ql_.m27 rfl rfl (any_of HT_.out (by kernel_rfl)) (fun _ _ _ h=>h) (Or.inr ⟨?_,rfl⟩) ?_ ?_;(· rfl);rotate_left;(· simp only [Act.put,List.setIfInBounds_toArray,List.set_cons_zero,List.set_cons_succ,i64_w,i32_w];rfl))
      | (refine pure_ (i:=28) (N:=some 44) (v:=?_) (a':=?_) ql_.m27 rfl rfl (any_of HT_.out (by kernel_rfl)) (fun _ _ _ h=>h) (Or.inl ⟨?_,?_⟩) ?_ ?_;rotate_left;(· rfl);(· intro w';go_simp;with_reducible rfl);rotate_left;(· simp only [Act.put,List.setIfInBounds_toArray,List.set_cons_zero,List.set_cons_succ,i64_w,i32_w];rfl)))
     all_goals (first
      | (refine pure_ (i:=27) (N:=some 43) (v:=undef) (a':=?_) ql_.m28 rfl rfl (any_of HT_.out (by kernel_rfl)) (fun _ _ _ h=>h) (Or.inr ⟨?_,rfl⟩) ?_ ?_;(· rfl);rotate_left;(· simp only [Act.put,List.setIfInBounds_toArray,List.set_cons_zero,List.set_cons_succ,i64_w,i32_w];rfl))
      | (refine take_ (i:=27) (N:=some 43) (v:=?_) (a':=?_) ql_.m28 rfl rfl (take_ofW HT_.out HW_.out (by kernel_rfl)) (fun _ _ _ h=>h) (Or.inl ⟨?_,?_⟩) hHeld ?_ ?_;rotate_left;(· rfl);(· (first|rintro w' ⟨s0,s1,s2,s3⟩|rintro w' ⟨s0,s1,s2⟩);go_simp;with_reducible rfl);rotate_left;(· simp only [Act.put,List.setIfInBounds_toArray,List.set_cons_zero,List.set_cons_succ,i64_w,i32_w];rfl)))
     all_goals (first
      | (refine pure_ (i:=29) (N:=some 45) (v:=undef) (a':=?_) ql_.m29 rfl rfl (any_of HT_.out (by kernel_rfl)) (fun _ _ _ h=>h) (Or.inr ⟨?_,rfl⟩) ?_ ?_;(· rfl);rotate_left;(· simp only [Act.put,List.setIfInBounds_toArray,List.set_cons_zero,List.set_cons_succ,i64_w,i32_w];rfl))
      | (refine take_ (i:=29) (N:=some 45) (v:=?_) (a':=?_) ql_.m29 rfl rfl (take_ofW HT_.out HW_.out (by kernel_rfl)) (fun _ _ _ h=>h) (Or.inl ⟨?_,?_⟩) hHeld ?_ ?_;rotate_left;(· rfl);(· (first|rintro w' ⟨s0,s1,s2,s3⟩|rintro w' ⟨s0,s1,s2⟩);go_simp;with_reducible rfl);rotate_left;(· simp only [Act.put,List.setIfInBounds_toArray,List.set_cons_zero,List.set_cons_succ,i64_w,i32_w];rfl)))
     all_goals (first
      | (refine pure_ (i:=30) (N:=some 46) (v:=undef) (a':=?_) ql_.m30 rfl rfl (any_of HT_.out (by kernel_rfl)) (fun _ _ _ h=>h) (Or.inr ⟨?_,rfl⟩) ?_ ?_;(· rfl);rotate_left;(· simp only [Act.put,List.setIfInBounds_toArray,List.set_cons_zero,List.set_cons_succ,i64_w,i32_w];rfl))
      | (refine one_ (i:=30) (N:=some 46) ql_.m30 rfl rfl (one_of HT_.out (by kernel_rfl)) (by decide) (fun K hK=>?_);refine goes_ Try.func207 (by kernel_rfl) rfl #[.string Y.f0,.string X.f0] ?_ rfl rfl ?_ ?_;(· rfl);(· (try simp only [List.map_toArray,List.map_cons,List.map_nil]);first|done|rfl);(with_reducible refine (qr2_.calls Y.f0 X.f0 tc _ A21.out).mono ?_);rintro e w' ⟨rfl,⟨nd,rfl⟩⟩;refine ⟨_,rfl,?_⟩;refine hK.out _ _ ?_ (fun hHeld=>?_);(· (first|exact ⟨(qg_ BK.out 0).trans rfl,(qg_ BK.out 1).trans rfl,(qg_ BK.out 2).trans rfl,qq_ HBR.out PY.out⟩|exact ⟨(qg_ BK.out 0).trans rfl,(qg_ BK.out 1).trans rfl,(qg_ BK.out 2).trans rfl⟩));clear hK K;refine norm_ (a':=?_) ?_ ?_;rotate_left;(· show Act.put _ (some 46) _=_;simp only [Act.put,List.setIfInBounds_toArray,List.set_cons_zero,List.set_cons_succ,i64_w,i32_w];rfl)))
     all_goals (first
      | (refine pure_ (i:=31) (N:=some 47) (v:=undef) (a':=?_) ql_.m31 rfl rfl (any_of HT_.out (by kernel_rfl)) (fun _ _ _ h=>h) (Or.inr ⟨?_,rfl⟩) ?_ ?_;(· rfl);rotate_left;(· simp only [Act.put,List.setIfInBounds_toArray,List.set_cons_zero,List.set_cons_succ,i64_w,i32_w];rfl))
      | (refine pure_ (i:=31) (N:=some 47) (v:=?_) (a':=?_) ql_.m31 rfl rfl (any_of HT_.out (by kernel_rfl)) (fun _ _ _ h=>h) (Or.inl ⟨?_,?_⟩) ?_ ?_;rotate_left;(· rfl);(· intro w';go_simp;with_reducible rfl);rotate_left;(· simp only [Act.put,List.setIfInBounds_toArray,List.set_cons_zero,List.set_cons_succ,i64_w,i32_w];rfl)))
     all_goals (first
      | (refine pure_ (i:=32) (N:=some 48) (v:=undef) (a':=?_) ql_.m32 rfl rfl (any_of HT_.out (by kernel_rfl)) (fun _ _ _ h=>h) (Or.inr ⟨?_,rfl⟩) ?_ ?_;(· rfl);rotate_left;(· simp only [Act.put,List.setIfInBounds_toArray,List.set_cons_zero,List.set_cons_succ,i64_w,i32_w];rfl))
      | (refine pure_ (i:=32) (N:=some 48) (v:=?_) (a':=?_) ql_.m32 rfl rfl (any_of HT_.out (by kernel_rfl)) (fun _ _ _ h=>h) (Or.inl ⟨?_,?_⟩) ?_ ?_;rotate_left;(· rfl);(· intro w';go_simp;with_reducible rfl);rotate_left;(· simp only [Act.put,List.setIfInBounds_toArray,List.set_cons_zero,List.set_cons_succ,i64_w,i32_w];rfl)))
     all_goals (refine pure_ (i:=33) (N:=some 49) (v:=?_) (a':=?_) ql_.m33 rfl rfl (any_of HT_.out (by kernel_rfl)) (fun _ _ _ h=>h) (Or.inl ⟨?_,?_⟩) ?_ ?_;rotate_left;(· rfl);(· intro w';go_simp;with_reducible rfl);rotate_left;(· simp only [Act.put,List.setIfInBounds_toArray,List.set_cons_zero,List.set_cons_succ,i64_w,i32_w];rfl))
     all_goals
      refine done_ (done_of HT_.out (by kernel_rfl)) ?_
      have HBE:=aK (qj_ HBW.out HBR.out)
     all_goals go_wp2
     all_goals (first
      | (go_ret;exact ⟨rfl,(by repeat (first|(with_reducible exact HBE.out)|(with_reducible apply qa_)|(with_reducible apply qc_)))⟩;done)
      | (go_roundg k1;(case measure=>have:=HK1.out;omega);(case rel=>exact ⟨wrap64 (x+1),rfl,HN',⟨by have:=HK1.out;omega⟩,⟨by repeat (first|(with_reducible exact HBE.out)|(with_reducible apply qa_)|(with_reducible apply qc_))⟩⟩)))
    ·rw [if_neg c5] at H;cases H
   ·rw [if_neg c4] at H
    obtain rfl:=Option.some.inj H
    go_wp2
    go_ret
    exact ⟨rfl,HB.out⟩
end Go.Proofs.Ytaiefdhenikiiaa.Base
namespace Go.Proofs.Ytaiefdhenikiiaa.Base
open Go.RowKit Go.Proofs.YtaiefdhenikiiaaW.PrintWords Go.Proofs.YtaiefdhenikiiaaW.PrintLast Go.Proofs.YtaiefdhenikiiaaW.PrintMore
attribute [local go_sem] max2_int qo1_ max_two min_two max_three min_three max_four min_four Go.Proofs.YtaiefdhenikiiaaZ.qx_   -- for this text's walks alone
set_option linter.unusedVariables false
set_option linter.unusedSimpArgs false
def qt2_.f (k:Nat) (a0_0:Int) (a0_1:Int) (l0_2:List (S79)):Option (Bool):=(qa3_.f a0_0 a0_1).bind fun t238=>(if t238=true then ((ql_.f k a0_0 a0_1 l0_2).bind fun t239=>(some t239)) else (some false))
theorem qt2_.mono:∀ a0 a1 a2 k,LeO (qt2_.f k a0 a1 a2) (qt2_.f (k+1) a0 a1 a2):=by
 intro a0 a1 a2 k
 unfold qt2_.f
 repeat' first
   | (with_reducible exact ql_.mono _ _ _ _)
   | (with_reducible exact LeO.refl _)
   | (with_reducible exact LeO.none _)
   | (with_reducible refine LeO.ite ?_ ?_)
   | (with_reducible refine LeO.bind ?_ (fun _=>?_))
   | exact ql_.mono _ _ _ _
   | exact LeO.none _
   | refine LeO.ite ?_ ?_
   | refine LeO.bind ?_ (fun _=>?_)
set_option maxHeartbeats 8000000 in
set_option maxRecDepth 100000 in
theorem qt2_.calls (k:Nat) (a0_0:Int) (a0_1:Int) (A0_2:Option Addr) (c0_2:Nat) (l0_2:List (S79)) (r:Bool) (w:World) (hr0_2:Kd.C k79 w A0_2 l0_2.length l0_2) (hc0_2:l0_2.length≤c0_2) (h:qt2_.f k a0_0 a0_1 l0_2=some r) :
  Calls Try.prog 83 #[.agg #[.int .i64 a0_0,.int .i64 a0_1,.slice A0_2 l0_2.length c0_2]] w fun e w'=>e=.returned (.bool r)∧Below w.heap.size w w':=by
 have hu38:=Try.underlying38
 have HR0_2:=aK hr0_2
 have HC0_2:=aK hc0_2
 clear hr0_2 hc0_2
 have HB:=aK (Below.refl w.heap.size w)
 have H:((qa3_.f a0_0 a0_1).bind fun t238=>(if t238=true then ((ql_.f k a0_0 a0_1 l0_2).bind fun t239=>(some t239)) else (some false)))=some r:=h
 clear h
 replace H:=Option.bind_eq_some_iff.mp H
 obtain ⟨t238,A20,H⟩:=H
 replace H:(if t238=true then ((ql_.f k a0_0 a0_1 l0_2).bind fun t239=>(some t239)) else (some false))=some r:=H
 have A2:=aK A20
 clear A20
 by_cases c3:t238=true
 ·subst c3
  have H1:((ql_.f k a0_0 a0_1 l0_2).bind fun t239=>(some t239))=some r:=by rw [if_pos rfl] at H;exact H
  clear H
  have H:=H1
  clear H1
  replace H:=Option.bind_eq_some_iff.mp H
  obtain ⟨t239,A40,H⟩:=H
  replace H:(some t239)=some r:=H
  have A4:=aK A40
  clear A40
  obtain rfl:=Option.some.inj H
  go_enter Try.func83,Try.ntmps83
  go_wp2_with (first|((with_reducible refine qu_ (N:=1) rfl ?_);refine qr_ ?hg (N:=1) ?hd (cs:=#[.int .i64 a0_0,.int .i64 a0_1,.slice A0_2 l0_2.length c0_2]) (t:=38) ?hr ?_;(case hd=>rfl);(case hg=>rfl);(case hr=>first|(go_simp;done)|(go_simp;rfl));intro gb237 hg w5 hbox hb;have n0_:=aK (qj_ (by repeat (first|(with_reducible first|exact HB.out|apply qb_|apply qa_|apply qc_)|exact HB.out)) hb);have n1_:=aK (hbox);have n2_:=aK ((by rw [hg];exact (qk_ (by repeat (first|(with_reducible first|exact HB.out|apply qb_|apply qa_|apply qc_)|exact HB.out))):w.heap.size≤gb237));have n3_:=aK ((by rw [hg];exact (qk_ (by repeat (first|(with_reducible first|exact HB.out|apply qb_|apply qa_|apply qc_)|exact HB.out))):w.heap.size≤gb237));clear HB;have HB:=n0_;have BK237:=n1_;have GW237:=n2_;have GE237:=n3_;clear n0_ n1_ n2_ n3_;clear hb hbox hg;have hcz6_0:w5.cell? ⟨gb237,0,none⟩=some (.int .i64 a0_0):=(qg_ BK237.out 0).trans rfl;have hcz6_1:w5.cell? ⟨gb237,1,none⟩=some (.int .i64 a0_1):=(qg_ BK237.out 1).trans rfl;have hcz6_2:w5.cell? ⟨gb237,2,none⟩=some (.slice A0_2 l0_2.length c0_2):=(qg_ BK237.out 2).trans rfl;have hfz6_0:=qd_ BK237.out 0;have hfz6_1:=qd_ BK237.out 1;have hfz6_2:=qd_ BK237.out 2)|((with_reducible refine qa1_ (f:=138) rfl ?_);refine goesL_ (some 7) rfl rfl Try.func138 (by kernel_rfl) rfl #[.int .i64 a0_0,.int .i64 a0_1] rfl (by (try simp only [List.map_toArray,List.map_cons,List.map_nil]);first|done|rfl|(simp only [List.length_drop,List.length_take];rfl)) ?_;(with_reducible refine (qa3_.calls a0_0 a0_1 true _ A2.out).mono ?_);rintro e w' ⟨rfl,⟨nd,rfl⟩⟩;refine ⟨_,rfl,?_⟩)|(go_at_call 154;(with_reducible refine (ql_.calls k a0_0 a0_1 _ _ l0_2 t239 _ ?side1 ?side2 A4.out).mono ?_);(case side1=>repeat (first|exact (Kd.qv1_ HR0_2.out (by repeat (first|(with_reducible first|exact HB.out|apply qb_|apply qa_|apply qc_|refine qh_ ?_ GE237.out)|exact HB.out)))|(with_reducible refine Kd.C_alloc ?_ _)|(with_reducible refine Kd.C_drewN ?_ _)|(with_reducible refine Kd.C_drew ?_)));(case side2=>exact HC0_2.out);rintro e w7 ⟨rfl,hb⟩;have n0_:=aK (qm_ (g:=gb237) (o:=.cells #[.int .i64 a0_0,.int .i64 a0_1,.slice A0_2 l0_2.length c0_2] 38 (0,0)) (by (with_reducible repeat (first|refine qf_ ?_ _|refine qi_ ?_|refine qe_ ?_ _));exact BK237.out) hb);have n1_:=aK (qj_ (by repeat (first|(with_reducible first|exact HB.out|apply qb_|apply qa_|apply qc_|refine qh_ ?_ GE237.out)|exact HB.out)) hb);clear BK237;clear HB;have BK237:=n0_;have HB:=n1_;clear n0_ n1_;(try clear hb);(try clear hb2);(try clear hk);(try clear hi)))
  go_ret
  exact ⟨by first|rfl|(simp [qo_,qn_] <;> rfl)|(simp [*,qo_,qn_] <;> rfl),by repeat (first|(with_reducible first|exact HB.out|apply qb_|apply qa_|apply qc_|refine qh_ ?_ GE237.out)|exact HB.out)⟩
 ·replace c3:=Bool.eq_false_iff.mpr c3
  subst c3
  have H1:(some false)=some r:=by rw [if_neg (show ¬ (false=true) by decide)] at H;exact H
  clear H
  have H:=H1
  clear H1
  obtain rfl:=Option.some.inj H
  go_enter Try.func83,Try.ntmps83
  go_wp2_with (first|((with_reducible refine qu_ (N:=1) rfl ?_);refine qr_ ?hg (N:=1) ?hd (cs:=#[.int .i64 a0_0,.int .i64 a0_1,.slice A0_2 l0_2.length c0_2]) (t:=38) ?hr ?_;(case hd=>rfl);(case hg=>rfl);(case hr=>first|(go_simp;done)|(go_simp;rfl));intro gb237 hg w8 hbox hb;have n0_:=aK (qj_ (by repeat (first|(with_reducible first|exact HB.out|apply qb_|apply qa_|apply qc_)|exact HB.out)) hb);have n1_:=aK (hbox);have n2_:=aK ((by rw [hg];exact (qk_ (by repeat (first|(with_reducible first|exact HB.out|apply qb_|apply qa_|apply qc_)|exact HB.out))):w.heap.size≤gb237));have n3_:=aK ((by rw [hg];exact (qk_ (by repeat (first|(with_reducible first|exact HB.out|apply qb_|apply qa_|apply qc_)|exact HB.out))):w.heap.size≤gb237));clear HB;have HB:=n0_;have BK237:=n1_;have GW237:=n2_;have GE237:=n3_;clear n0_ n1_ n2_ n3_;clear hb hbox hg;have hcz9_0:w8.cell? ⟨gb237,0,none⟩=some (.int .i64 a0_0):=(qg_ BK237.out 0).trans rfl;have hcz9_1:w8.cell? ⟨gb237,1,none⟩=some (.int .i64 a0_1):=(qg_ BK237.out 1).trans rfl;have hcz9_2:w8.cell? ⟨gb237,2,none⟩=some (.slice A0_2 l0_2.length c0_2):=(qg_ BK237.out 2).trans rfl;have hfz9_0:=qd_ BK237.out 0;have hfz9_1:=qd_ BK237.out 1;have hfz9_2:=qd_ BK237.out 2)|((with_reducible refine qa1_ (f:=138) rfl ?_);refine goesL_ (some 7) rfl rfl Try.func138 (by kernel_rfl) rfl #[.int .i64 a0_0,.int .i64 a0_1] rfl (by (try simp only [List.map_toArray,List.map_cons,List.map_nil]);first|done|rfl|(simp only [List.length_drop,List.length_take];rfl)) ?_;(with_reducible refine (qa3_.calls a0_0 a0_1 false _ A2.out).mono ?_);rintro e w' ⟨rfl,⟨nd,rfl⟩⟩;refine ⟨_,rfl,?_⟩))
  go_ret
  exact ⟨by first|rfl|(simp [qo_,qn_] <;> rfl)|(simp [*,qo_,qn_] <;> rfl),by repeat (first|(with_reducible first|exact HB.out|apply qb_|apply qa_|apply qc_|refine qh_ ?_ GE237.out)|exact HB.out)⟩
end Go.Proofs.Ytaiefdhenikiiaa.Base
