/- Texts that the proof of FnExactDynkinMap needs, part 12. No condition. -/
import Derived.Test.YtaiefdhenikiiaaMFnExactDynkinMap11
import Derived.JoinedOf
import Derived.ProofKit
namespace Go.Proofs.Ytaiefdhenikiiaa.Ws
open Go
set_option maxRecDepth 100000
set_option linter.unusedVariables false
set_option linter.unusedSimpArgs false
def joinW:List (List Char)→List Char
  | []=>[]
  | [w]=>w
  | w :: v :: l=>w ++ Char.ofNat 32 :: joinW (v :: l)
theorem signs_cons (c:Char) (r:List Char) (h:c ≠ Char.ofNat 32):wordsSigns (c :: r)=match wordsSigns r with|w :: ws=>(c :: w) :: ws|[]=>[[c]]:=by
  conv=>lhs;unfold wordsSigns
  split
  · rename_i h1;cases h1
  · rename_i r1 h1;injection h1 with h1 _;exact absurd h1 h
  · rename_i h1;injection h1 with h1 h2;subst h1 h2;rfl
theorem signs_space (r:List Char):wordsSigns (Char.ofNat 32 :: r)=[] :: wordsSigns r:=rfl
theorem signs_word:∀ (w:List Char),(∀ c ∈ w,c ≠ Char.ofNat 32)→wordsSigns w=[w]
  | [],_=>rfl
  | c :: w,h=>by rw [signs_cons c w (h c List.mem_cons_self),signs_word w (fun x hx=>h x (List.mem_cons_of_mem _ hx))]
theorem signs_more:∀ (w r:List Char),(∀ c ∈ w,c ≠ Char.ofNat 32)→wordsSigns (w ++ Char.ofNat 32 :: r)=w :: wordsSigns r
  | [],r,_=>signs_space r
  | c :: w,r,h=>by
    rw [List.cons_append,signs_cons c _ (h c List.mem_cons_self),signs_more w r (fun x hx=>h x (List.mem_cons_of_mem _ hx))]
theorem signs_join:∀ (l:List (List Char)),l ≠ []→(∀ w ∈ l,∀ c ∈ w,c ≠ Char.ofNat 32)→wordsSigns (joinW l)=l
  | [],h,_=>absurd rfl h
  | [w],_,h=>signs_word w (h w List.mem_cons_self)
  | w :: v :: l,_,h=>by
    show wordsSigns (w ++ Char.ofNat 32 :: joinW (v :: l))=_
    rw [signs_more w _ (h w List.mem_cons_self),signs_join (v :: l) (by simp) (fun x hx=>h x (List.mem_cons_of_mem _ hx))]
def codes:List (List Nat):=[[104,97,114,110,101,115,115],[97,48,55,98,54,50,48,101,50,54,100,53,98,56,102,51,97,101,51,102,54,98,55,97,101,52,57,99,49,51,50,102,49,50,51,55,98,54,53,55,48,54,55,54,55,99,48,49,49,55,56,53,53,102,100,97,54,100,53,50,50,50,99,99],[99,117,116],[97,116],[108,111,111,112,46,101,120,97,109,112,108,101,47,103,48,49,50,54,48,47,108,97,119,115,46,70,110,69,120,97,99,116,73,110,118,101,114,115,101,67,111,111,114,100,105,110,97,116,101,115],[108,111,111,112,46,101,120,97,109,112,108,101,47,103,48,49,50,54,48,47,108,97,119,115,46,70,110,69,120,97,99,116,68,101,103,114,101,101,115,79,102],[108,111,111,112,46,101,120,97,109,112,108,101,47,103,48,49,50,54,48,47,108,97,119,115,46,70,110,69,120,97,99,116,87,105,116,104,111,117,116,66,101,103,105,110,110,105,110,103],[108,111,111,112,46,101,120,97,109,112,108,101,47,103,48,49,50,54,48,47,108,97,119,115,46,70,110,69,120,97,99,116,87,105,116,104,111,117,116,69,110,100],[108,111,111,112,46,101,120,97,109,112,108,101,47,103,48,49,50,54,48,47,108,97,119,115,46,70,110,69,120,97,99,116,76,101,102,116,66,114,97,99,107,101,116],[108,111,111,112,46,101,120,97,109,112,108,101,47,103,48,49,50,54,48,47,108,97,119,115,46,70,110,69,120,97,99,116,66,114,97,99,107,101,116,79,102],[108,111,111,112,46,101,120,97,109,112,108,101,47,103,48,49,50,54,48,47,108,97,119,115,46,70,110,69,120,97,99,116,83,116,101,112,83,105,103,110,97,116,117,114,101],[108,111,111,112,46,101,120,97,109,112,108,101,47,103,48,49,50,54,48,47,108,97,119,115,46,70,110,69,120,97,99,116,82,101,112,101,97,116,101,100,66,114,97,99,107,101,116],[108,111,111,112,46,101,120,97,109,112,108,101,47,103,48,49,50,54,48,47,108,97,119,115,46,70,110,69,120,97,99,116,65,114,101,83,105,103,110,97,116,117,114,101,115,69,113,117,97,108],[108,111,111,112,46,101,120,97,109,112,108,101,47,103,48,49,50,54,48,47,108,97,119,115,46,70,110,69,120,97,99,116,83,101,114,105,101,115,79,102,67,111,111,114,100,105,110,97,116,101,115],[108,111,111,112,46,101,120,97,109,112,108,101,47,103,48,49,50,54,48,47,108,97,119,115,46,70,110,69,120,97,99,116,76,105,101,67,111,111,114,100,105,110,97,116,101,115],[108,111,111,112,46,101,120,97,109,112,108,101,47,103,48,49,50,54,48,47,108,97,119,115,46,70,110,69,120,97,99,116,68,121,110,107,105,110,77,97,112],[108,111,111,112,46,101,120,97,109,112,108,101,47,103,48,49,50,54,48,47,108,97,119,115,46,70,110,69,120,97,99,116,83,105,103,110,97,116,117,114,101,79,102],[108,111,111,112,46,101,120,97,109,112,108,101,47,103,48,49,50,54,48,47,108,97,119,115,46,70,110,69,120,97,99,116,77,101,97,110,83,105,103,110,97,116,117,114,101],[108,111,111,112,46,101,120,97,109,112,108,101,47,103,48,49,50,54,48,47,108,97,119,115,46,70,110,69,120,97,99,116,68,117,97,108,83,101,114,105,101,115],[108,111,111,112,46,101,120,97,109,112,108,101,47,103,48,49,50,54,48,47,108,97,119,115,46,70,110,69,120,97,99,116,74,111,105,110,101,100,83,101,114,105,101,115],[108,111,111,112,46,101,120,97,109,112,108,101,47,103,48,49,50,54,48,47,108,97,119,115,46,70,110,69,120,97,99,116,76,111,103,83,105,103,110,97,116,117,114,101],[108,111,111,112,46,101,120,97,109,112,108,101,47,103,48,49,50,54,48,47,108,97,119,115,46,70,110,69,120,97,99,116,83,105,103,110,97,116,117,114,101,79,102,67,111,111,114,100,105,110,97,116,101,115]]
def W:List (List Char):=codes.map fun w=>w.map Char.ofNat
theorem codes_ok:(W.all fun w=>w.all fun c=>!(Nat.beq c.toNat 32))=true:=by kernel_rfl
theorem no_space:∀ w ∈ W,∀ c ∈ w,c ≠ Char.ofNat 32:=by
  intro w hw c hc e
  have h:=List.all_eq_true.1 (List.all_eq_true.1 codes_ok w hw) c hc
  rw [e] at h
  exact absurd h (by decide)
theorem text:Try.prog.initOrder.toList=joinW W:=(congrArg String.toList (show Try.prog.initOrder=String.ofList (joinW W) from by kernel_rfl)).trans (String.toList_ofList)
theorem words:wordsSigns Try.prog.initOrder.toList=W:=by rw [text];exact signs_join W (by unfold W codes;simp) no_space
theorem mayEnter_of (P:Program) (h:wordsSigns P.initOrder.toList=W) (h2:P.laysLater=false) (h3:P.bearsReflect=false) (h4:P.doorFits []=true):P.mayEnter=true:=by
  unfold Program.mayEnter
  rw [h,h2,h3]
  have e:(stripLifts liftWords (behindMainWord W)).1=[]:=by kernel_rfl
  have e2:(stripLifts liftWords (behindMainWord W)).2.head?=some "cut".toList:=by kernel_rfl
  have e3:∃ c rest,behindMainWord W=c :: rest:=⟨_,_,rfl⟩
  obtain ⟨c,rest,e3⟩:=e3
  rw [e3] at e e2 ⊢
  simp only [e,e2,h4,List.contains_nil,Bool.not_false,Bool.or_true,Bool.and_true,Bool.true_and,beq_self_eq_true,Bool.false_or,Bool.or_false]
theorem lifts_of (P:Program) (h:wordsSigns P.initOrder.toList=W):(false == P.liftsFinal)=true:=by
  unfold Program.liftsFinal Program.headLifts
  rw [h]
  kernel_rfl
theorem make_of (P:Program) (h:wordsSigns P.initOrder.toList=W):(P.make == some .cut)=true:=by
  unfold Program.make
  rw [h]
  kernel_rfl
theorem mayEnter:Try.prog.mayEnter=true:=mayEnter_of Try.prog words (by kernel_rfl) (by kernel_rfl) (by kernel_rfl)
theorem lifts:(false == Try.prog.liftsFinal)=true:=lifts_of Try.prog words
theorem make_:(Try.prog.make == some .cut)=true:=make_of Try.prog words
theorem aa {a b:Bool} (ha:a=true) (hb:b=true):(a && b)=true:=by rw [ha,hb];rfl
end Go.Proofs.Ytaiefdhenikiiaa.Ws
