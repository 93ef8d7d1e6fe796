/- Texts that the proof of FnExactWithoutEnd needs, part 8. No condition. -/
import Derived.Test.YtaiefdhenikiiaaMFnExactWithoutEnd7
import Derived.Laws.CopyOwn
namespace Go.Proofs.Ytaiefdhenikiiaa.Base
open Go.RowKit Go.Proofs.YtaiefdhenikiiaaW.PrintWords Go.Proofs.YtaiefdhenikiiaaW.PrintLast Go.Proofs.YtaiefdhenikiiaaW.PrintMore
set_option linter.unusedVariables false
set_option linter.unusedSimpArgs false
theorem run_copy2 {P:Program} (w:World) (dT sT ty elem:TypeId) (g o dLen dCap:Nat) (a:Addr) (sLen sCap:Nat) (cur:Array Value) (t:TypeId) (cs:List Value)
    (hu:P.underlying dT=some (.slice elem)) (hs:(P.info? elem).map (·.size)=some 2)
    (hg:w.heap[g]?=some (.cells cur t (0,0))) (hn:cs.length=Nat.min sLen dLen * 2)
    (hsrc:∀ j v,cs[j]?=some v→w.cell? (a.add j)=some v) (hfit:o+cs.length≤cur.size) (h1:∀ v ∈ cs,v.oneCell'=true) :
    (Builtin.copy_ #[dT,sT] ty #[.slice (some ⟨g,o,none⟩) dLen dCap,.slice (some a) sLen sCap]).run P w =
      .ok (goInt (Nat.min sLen dLen:Nat)) (w.setRow g (cur.toList.take o ++ cs ++ cur.toList.drop (o+cs.length)).toArray):=by
  have hl:=run_loadCells_list (P:=P) w a cs hsrc
  have hst:=run_storeCells_at P g o t cs 0 cur w hg (by simpa using hfit) h1
  cases hq:P.info? elem with
  | none=>simp [hq] at hs
  | some i =>
    have hi:i.size=2:=by simpa [hq] using hs
    simp [Builtin.copy_,run_underlying hu,Builtin.lenOf,Builtin.firstCells,sizeOf,typeInfo,hq,hi,← hn,hl,hst]
theorem wpList_copy2 {P:Program} {w:World} {ops:Array Oper} {rest:List Oper} {o:Oper} {a:Act} {Q:Exit→Act→World→Prop} (hgd:o.guard=none) (d s:Operand) (dT sT:TypeId)
    (ho:o.op=.call { callee:=.builtin .copy,args:=#[d,s],argTypes:=#[dT,sT] }) (elem:TypeId) (hu:P.underlying dT=some (.slice elem)) (hsz:(P.info? elem).map (·.size)=some 2)
    (g off dLen dCap:Nat) (ad:Addr) (sLen sCap:Nat) (hd:a.eval d=.slice (some ⟨g,off,none⟩) dLen dCap) (hs:a.eval s=.slice (some ad) sLen sCap)
    (cur:Array Value) (t:TypeId) (hg:w.heap[g]?=some (.cells cur t (0,0))) (cs:List Value) (hn:cs.length=Nat.min sLen dLen * 2)
    (hsrc:∀ j v,cs[j]?=some v→w.cell? (ad.add j)=some v) (hfit:off+cs.length≤cur.size) (h1:∀ v ∈ cs,v.oneCell'=true)
    (B:Nat) (w0:World) (hb:Below B w0 w) (hBg:B≤g) (new:List Value) (hnew:cur.toList.take off ++ (cs ++ cur.toList.drop (off+cs.length))=new)
    (h:∀ w',w'.heap[g]?=some (.cells new.toArray t (0,0))→Below B w0 w'→wpList P ops Q rest (a.put o.dst (goInt (Nat.min sLen dLen:Nat))) w'):wpList P ops Q (o :: rest) a w:=by
  refine wpList_plain hgd fun K hK=>?_
  have hrun:=run_copy2 (P:=P) w dT sT o.type elem g off dLen dCap ad sLen sCap cur t cs hu hsz hg hn hsrc hfit h1
  unfold Oper.wp
  simp [execOp,ho,resolve,invoke,builtin,hd,hs,hrun,Result.andThen]
  refine hK _ _ (h _ ?_ (below_setRow hb hBg _))
  rw [setRow_heap w g cur _ t (0,0) hg,hnew]
theorem step_copy2 {P:Program} {ops:Array Oper} {o:Oper} {a:Act} {w:World} {K:Act→World→Prop} {Q:Exit→Act→World→Prop} {E:Prop} (hgd:o.guard=none) (d s:Operand) (dT sT:TypeId)
    (ho:o.op=.call { callee:=.builtin .copy,args:=#[d,s],argTypes:=#[dT,sT] }) (elem:TypeId) (hu:P.underlying dT=some (.slice elem)) (hsz:(P.info? elem).map (·.size)=some 2)
    (g off dLen dCap:Nat) (ad:Addr) (sLen sCap:Nat) (hd:a.eval d=.slice (some ⟨g,off,none⟩) dLen dCap) (hs:a.eval s=.slice (some ad) sLen sCap)
    (cur:Array Value) (t:TypeId) (hg:w.heap[g]?=some (.cells cur t (0,0))) (cs:List Value) (hn:cs.length=Nat.min sLen dLen * 2)
    (hsrc:∀ j v,cs[j]?=some v→w.cell? (ad.add j)=some v) (hfit:off+cs.length≤cur.size) (h1:∀ v ∈ cs,v.oneCell'=true)
    (B:Nat) (w0:World) (hb:Below B w0 w) (hBg:B≤g) (new:List Value) (hnew:cur.toList.take off ++ (cs ++ cur.toList.drop (off+cs.length))=new)
    (h:∀ w',w'.heap[g]?=some (.cells new.toArray t (0,0))→Below B w0 w'→K (a.put o.dst (goInt (Nat.min sLen dLen:Nat))) w') :
    if Region.wanted o (yielded ops a.tmps)=true then Oper.wp P o a w K Q else E:=by
  have hw:Region.wanted o (yielded ops a.tmps)=true:=by simp [Region.wanted,hgd]
  rw [if_pos hw]
  have hrun:=run_copy2 (P:=P) w dT sT o.type elem g off dLen dCap ad sLen sCap cur t cs hu hsz hg hn hsrc hfit h1
  unfold Oper.wp
  simp [execOp,ho,resolve,invoke,builtin,hd,hs,hrun,Result.andThen]
  refine h _ ?_ (below_setRow hb hBg _)
  rw [setRow_heap w g cur _ t (0,0) hg,hnew]
theorem cellsF_append (a b:List S77):cellsF (a ++ b)=cellsF a ++ cellsF b:=by simp [cellsF]
theorem cellsF_one (vs:List S77):∀ v ∈ cellsF vs,v.oneCell'=true:=by
  intro v hv
  simp only [cellsF,List.mem_flatMap] at hv
  obtain ⟨x,_,hx⟩:=hv
  simp at hx
  rcases hx with rfl|rfl <;> rfl
theorem cellsF_take (vs:List S77) (m:Nat):(cellsF vs).take (2 * m)=cellsF (vs.take m):=by
  induction vs generalizing m with
  | nil=>simp [cellsF]
  | cons x vs ih =>
    cases m with
    | zero=>simp [cellsF]
    | succ m=>have:=ih m;simp only [cellsF,List.flatMap_cons,List.take_succ_cons,Nat.mul_succ,List.cons_append,List.nil_append] at this ⊢;rw [this]
theorem cellsF_drop (vs:List S77) (m:Nat):(cellsF vs).drop (2 * m)=cellsF (vs.drop m):=by
  induction vs generalizing m with
  | nil=>simp [cellsF]
  | cons x vs ih =>
    cases m with
    | zero=>simp [cellsF]
    | succ m=>have:=ih m;simp only [cellsF,List.flatMap_cons,List.drop_succ_cons,Nat.mul_succ,List.cons_append,List.nil_append] at this ⊢;rw [this]
theorem made_cells (N:Nat):madeCells #[.int .i64 0,.int .i64 0] (N * 2)=(cellsF (List.replicate N z77)).toArray:=by
  apply Array.ext
  · simp [size_madeCells,cellsF_length,Nat.mul_comm]
  · intro i h1 h2
    rw [size_madeCells] at h1
    have e:(cellsF (List.replicate N z77))[i]?=some (.int .i64 0):=by
      rcases Nat.mod_two_eq_zero_or_one i with c|c
      · have:=cellsF_0 (List.replicate N z77) (i / 2) (by simp;omega)
        rw [show 2 * (i / 2)=i by omega] at this
        rw [this];simp [z77]
      · have:=cellsF_1 (List.replicate N z77) (i / 2) (by simp;omega)
        rw [show 2 * (i / 2)+1=i by omega] at this
        rw [this];simp [z77]
    have e2:(cellsF (List.replicate N z77)).toArray[i]=.int .i64 0:=by
      have:=List.getElem?_eq_some_iff.1 e
      obtain ⟨hh,he⟩:=this
      simpa using he
    rw [e2]
    simp only [madeCells,Array.getElem_map,Array.getElem_range]
    rcases Nat.mod_two_eq_zero_or_one i with c|c <;> simp [c]
theorem mul_one (d n:Nat) (hd:d ∈ [1,2,3]) (hn:n ∈ List.range 9):bits_Mul.f 1 (aheadN d (n+1):Int)=some (0,(aheadN d (n+1):Int)):=by
  revert n;revert d
  decide +kernel
theorem fr_src {w:World} {b:Nat} {a:S77} (h:FrAt w b a):∀ j v,(cellsF (List.replicate 1 a))[j]?=some v→w.cell? ((⟨b,0,none⟩:Addr).add j)=some v:=by
  intro j v hj
  rw [add_plain]
  match j,hj with
  | 0,hj=>exact h.c0.trans hj
  | 1,hj=>exact h.c1.trans hj
  | j+2,hj=>simp [cellsF] at hj
/-- n values of 0,then what make left. -/
def fill (n N:Nat):List S77:=List.replicate n zeroF ++ List.replicate (N - n) z77
theorem fill_length (n N:Nat) (h:n≤N):(fill n N).length=N:=by simp [fill];omega
theorem fill_step (n m N:Nat) (h:n+m≤N):((cellsF (fill n N)).take (n * 2) ++ (cellsF (List.replicate m zeroF) ++ (cellsF (fill n N)).drop (n * 2+(cellsF (List.replicate m zeroF)).length)))=cellsF (fill (n+m) N):=by
  rw [cellsF_length,List.length_replicate,show n * 2+2 * m=2 * (n+m) by omega,Nat.mul_comm n 2,cellsF_take,cellsF_drop,← cellsF_append,← cellsF_append]
  congr 1
  unfold fill
  rw [List.take_append_of_le_length (by simp),List.take_of_length_le (by simp),List.drop_append,List.drop_eq_nil_of_le (by simp),List.length_replicate,List.drop_replicate,← List.append_assoc,List.replicate_append_replicate]
  simp;omega
theorem fill_src {w:World} {g n N:Nat} {e:TypeId} (hg:w.heap[g]?=some (.cells (cellsF (fill n N)).toArray e (0,0))) (hn:n≤N):∀ j v,(cellsF (List.replicate (min n (N - n)) zeroF))[j]?=some v→w.drew.cell? ((⟨g,0,none⟩:Addr).add j)=some v:=by
  intro j v hj
  have hjl:j < 2 * min n (N - n):=by
    have:=(List.getElem?_eq_some_iff.1 hj).1
    rwa [cellsF_length,List.length_replicate] at this
  rw [add_plain]
  show w.cell? ⟨g,j,none⟩=some v
  rw [qi_ hg,List.getElem?_toArray,← hj]
  have e1:cellsF (List.replicate (min n (N - n)) zeroF)=(cellsF (fill n N)).take (2 * min n (N - n)):=by
    rw [cellsF_take]
    congr 1
    unfold fill
    rw [List.take_append_of_le_length (by simp;omega),List.take_replicate]
    congr 1;omega
  rw [e1,List.getElem?_take,if_pos hjl]
set_option maxHeartbeats 8000000 in
set_option maxRecDepth 100000 in
theorem repeat_ (w:World) (N:Nat) (hm:bits_Mul.f 1 (N:Int)=some (0,(N:Int))) (h0:1≤N) (hN:N≤20000) (b c:Nat) (hx:FrAt w b zeroF) :
    Calls Try.prog 179 #[.slice (some ⟨b,0,none⟩) 1 c,.int .i64 N] w fun e w'=>∃ h,e=.returned (.slice (some ⟨h,0,none⟩) N N)∧w'.heap[h]?=some (.cells (cellsF (List.replicate N zeroF)).toArray 77 (0,0))∧w.heap.size≤h∧Below w.heap.size w w':=by
  have hmk:=fun W=>run_make (P:=Try.prog) (w:=W) 124 77 _ (.agg #[.int .i64 0,.int .i64 0]) rfl rfl rfl .i64 .i64 (N:Int) (N:Int) (by omega) (by omega) (by show (16:Int) * N≤_;omega) (by omega)
  have w1:wrap64 (N:Int)=N:=w64 (by omega) (by omega)
  have HX:=Aside0.mk hx
  have HM:=Aside0.mk hm
  clear hx hm
  go_enter Try.func179,Try.ntmps179
  go_wp2_with (first
    | (go_at_call 216;refine (bits_Mul.calls 1 N 0 N _ HM.out).mono ?_;rintro e w1 ⟨rfl,⟨nd,rfl⟩⟩)
    | ((with_reducible refine qv2_ (b:=.copy) (xs:=#[.tmp 31,.tmp 32]) rfl ?_);refine wpList_copy2 rfl (.tmp 31) (.tmp 32) 124 124 rfl 77 rfl rfl w.heap.size 0 N N ⟨b,0,none⟩ 1 c rfl rfl (cellsF (fill 0 N)).toArray 77 ?hg (cellsF (List.replicate 1 zeroF)) ?hn ?hsrc ?hfit (cellsF_one _) w.heap.size w ?hb (Nat.le_refl _) (cellsF (fill 1 N)) ?hnew ?_;(case hg=>exact (new_at (by simp)).trans (by rw [show fill 0 N=List.replicate N z77 from by simp [fill],← made_cells];rfl));(case hn=>rw [cellsF_length,List.length_replicate,show Nat.min 1 N=1 from Nat.min_eq_left h0]);(case hsrc=>exact fr_src ((HX.out.drewN _).alloc _));(case hfit=>rw [List.size_toArray,cellsF_length,cellsF_length,fill_length _ _ (Nat.zero_le _),List.length_replicate];omega);(case hb=>exact qb_ (qa_ (Below.refl _ _) _) _);(case hnew=>exact fill_step 0 1 N (by omega));intro w1 hg1 hb1;rw [show Nat.min 1 N=1 from Nat.min_eq_left h0];have HG:=Aside0.mk hg1;have HB:=Aside0.mk hb1;clear hg1 hb1))
  go_loopg [8] N (fun gg v8 wr=>∃ n:Nat,1≤n∧n≤N∧N - n≤gg∧v8=.int .i64 n∧Aside0 (wr.heap[w.heap.size]?=some (.cells (cellsF (fill n N)).toArray 77 (0,0)))∧Aside0 (Below w.heap.size w wr))
  case atStart=>exact ⟨1,Nat.le_refl _,h0,by omega,rfl,HG,HB⟩
  case round =>
    obtain ⟨n,hn1,hnN,hg,rfl,HG2,HB2⟩:=hrel
    clear HG HB
    by_cases hlt:n < N
    · have hltz:(n:Int) < (N:Int):=by omega
      go_wp2
      have HN:=Aside0.mk hlt
      go_region_held3 (fun _=>True) (trivial) ((refine step_copy2 rfl (.tmp 41) (.tmp 44) 124 124 rfl 77 rfl rfl w.heap.size (n * 2) (N - n) (N - n) ⟨w.heap.size,0,none⟩ n N (congrArg (fun z=>Value.slice z (N - n) (N - n)) (if_neg (by have:=HN.out;omega))) rfl (cellsF (fill n N)).toArray 77 HG2.out (cellsF (List.replicate (min n (N - n)) zeroF)) (by rw [cellsF_length,List.length_replicate];exact Nat.mul_comm _ _) (fill_src HG2.out hnN) (by rw [List.size_toArray,cellsF_length,cellsF_length,fill_length _ _ hnN,List.length_replicate];omega) (cellsF_one _) w.heap.size w (qc_ HB2.out) (Nat.le_refl _) (cellsF (fill (n+min n (N - n)) N)) (fill_step n _ N (by omega)) ?_;intro w2 hg2 hb2;have HG3:=Aside0.mk hg2;have HB3:=Aside0.mk hb2;clear hg2 hb2))
      go_wp2
      go_roundg (N - (n+min n (N - n)))
      case measure=>omega
      case rel =>
        refine ⟨n+min n (N - n),by omega,by omega,by omega,?_,HG3,HB3⟩
        congr 1
        rw [i64_w]
        have:Nat.min n (N - n)=min n (N - n):=rfl
        rw [this,w64 (by omega) (by omega)];omega
    · have hltz:¬ (n:Int) < (N:Int):=by omega
      obtain rfl:n=N:=by omega
      go_wp2
      go_returns
      refine ⟨_,rfl,?_,Nat.le_refl _,HB2.out⟩
      rw [HG2.out];simp [fill]
/-- A table of values 0. -/
def zeroT (d n:Nat):Tb:=⟨d,n,List.replicate (wordsD d n).length zeroF,false⟩
theorem zeroT_ok {d n:Nat} (h:Sz d n):(zeroT d n).Ok:=⟨h,by simp [zeroT],fun x hx=>by rw [(List.mem_replicate.1 hx).2];exact zero_okF⟩
/-- A table that a call has made. -/
def NewTab (w:World) (t:Tb) (e:Ending) (w':World):Prop:=∃ g h,e=.returned (.pointer (some ⟨g,0,none⟩))∧TabAt w' g h t∧w.heap.size≤g∧w.heap.size≤h∧Below w.heap.size w w'
set_option maxHeartbeats 8000000 in
set_option maxRecDepth 100000 in
theorem newTable_ (w:World) (d n:Nat) (hs:Sz d n):Calls Try.prog 126 #[.int .i64 (d:Int),.int .i64 (n:Int)] w (NewTab w (zeroT d n)):=by
  have hu:=Try.underlying77
  obtain ⟨k,hk⟩:=(allWords_are d n hs.d3 hs.n8).rounds
  have hl1:=wordsD_small d n hs.d3 hs.n8
  have hl0:1≤(wordsD d n).length:=by have:=numN_lt d n [] ⟨by simp,by simp⟩;omega
  have hmu:bits_Mul.f 1 ((wordsD d n).length:Int)=some (0,((wordsD d n).length:Int)):=by
    rw [wordsD_len]
    exact mul_one d n (by have:=hs.d1;have:=hs.d3;simp;omega) (by have:=hs.n8;simp;omega)
  have hz:(zeroT d n).vs.length=(wordsD d n).length:=by simp [zeroT]
  obtain ⟨N,hN⟩:∃ N,N=(wordsD d n).length:=⟨_,rfl⟩
  have hwl:(wordsA d n).length=N:=by rw [wordsA_len,hN]
  rw [← hN] at hl1 hl0 hmu hz
  have HK:=Aside0.mk hk
  have HM:=Aside0.mk hmu
  have HZ:=Aside0.mk hz
  have HE:=Aside0.mk hN
  have HWL:=Aside0.mk hwl
  clear hk hmu hz hN hwl
  go_enter Try.func126,Try.ntmps126
  go_wp2_with (first
    | (go_at_call 180;refine (impl_zero.calls 0 1 _ rfl).mono ?_;rintro e w1 ⟨rfl,hb⟩;have HB:=Aside0.mk hb;clear hb)
    | (go_at_call 175;refine (qu1_.calls k d n _ _ HK.out).mono ?_;rintro e w2 ⟨v,rfl,hv,hb⟩;have HF:=Aside0.mk (show FrAt w2 w1.heap.size zeroF from (FrAt.new w1 zeroF).below hb);have HB2:=Aside0.mk (show Below w.heap.size w w2 from qm_ (qb_ HB.out _) hb);obtain ⟨A,c,rfl⟩:=Kd.qq2_ hv;rw [HWL.out];clear hv hb)
    | (go_at_call 179;refine (repeat_ _ N HM.out hl0 (by omega) w1.heap.size 1 HF.out).mono ?_;rintro e w3 ⟨h,rfl,hh,hge,hb⟩;have HH:=Aside0.mk hh;have HB3:=Aside0.mk (show Below w.heap.size w w3 from qm_ HB2.out hb);have HG:=Aside0.mk hge;clear hh hge hb))
  go_returns
  refine ⟨_,h,rfl,⟨?_,?_⟩,HB3.out.size,Nat.le_trans HB2.out.size HG.out,qb_ HB3.out _⟩
  · have:=new_at (W:=w3) (cs:=#[.int .i64 (d:Int),.int .i64 (n:Int),.slice (some ⟨h,0,none⟩) N N,.bool false]) (e:=126) rfl
    simpa [zeroT,← HE.out] using this
  · have:=old_at (o:=.cells #[.int .i64 (d:Int),.int .i64 (n:Int),.slice (some ⟨h,0,none⟩) N N,.bool false] 126) HH.out
    simpa [zeroT,← HE.out] using this
end Go.Proofs.Ytaiefdhenikiiaa.Base
namespace Go.Proofs.Ytaiefdhenikiiaa.Base
open Go.RowKit Go.Proofs.YtaiefdhenikiiaaW.PrintWords Go.Proofs.YtaiefdhenikiiaaW.PrintLast Go.Proofs.YtaiefdhenikiiaaW.PrintMore
set_option linter.unusedVariables false
set_option linter.unusedSimpArgs false
theorem NewTab.from {w w1:World} {t:Tb} {e:Ending} {w':World} (hb:Below w.heap.size w w1) (h:NewTab w1 t e w'):NewTab w t e w':=by
  obtain ⟨g,k,he,T,hg,hh,hb2⟩:=h
  exact ⟨g,k,he,T,Nat.le_trans hb.size hg,Nat.le_trans hb.size hh,qm_ hb hb2⟩
end Go.Proofs.Ytaiefdhenikiiaa.Base
namespace Go.Proofs.Ytaiefdhenikiiaa.Base
open Go.RowKit Go.Proofs.YtaiefdhenikiiaaW.PrintWords Go.Proofs.YtaiefdhenikiiaaW.PrintLast Go.Proofs.YtaiefdhenikiiaaW.PrintMore
set_option linter.unusedVariables false
set_option linter.unusedSimpArgs false
theorem FrAt.put2 {w:World} {b:Nat} (h:w.heap[b]?=some (.cells #[.int .i64 0,.int .i64 0] 77 (0,0))) (a:S77):FrAt ((w.setCell ⟨b,0,none⟩ (.int .i64 a.f0)).setCell ⟨b,1,none⟩ (.int .i64 a.f1)) b a:=qj2_ (qj2_ h 0 _) 1 _
theorem drew_at {w:World} {b:Nat} {o:Obj} (h:w.heap[b]?=some o):w.drew.heap[b]?=some o:=h
theorem drewN_at {w:World} {b n:Nat} {o:Obj} (h:w.heap[b]?=some o):(w.drewN n).heap[b]?=some o:=h
/-- A row of texts that the call made,in blocks from B on. -/
def WordsAt (W:World) (B:Nat) (A:Option Addr) (c:Nat) (ws:List ByteArray):Prop:=Kd.R Kd.string 9 W B (fun _=>True) (.slice A ws.length c) ws
theorem WordsAt.of {W:World} {B:Nat} {v:Value} {ws:List ByteArray} (h:Kd.R Kd.string 9 W B (fun _=>True) v ws):∃ A c,v=.slice A ws.length c∧WordsAt W B A c ws:=by
  obtain ⟨A,c,rfl⟩:=Kd.qq2_ h
  exact ⟨A,c,rfl,h⟩
theorem WordsAt.below {w w':World} {B c:Nat} {A:Option Addr} {ws:List ByteArray} (h:WordsAt w B A c ws) (hb:Below w.heap.size w w'):WordsAt w' B A c ws:=Kd.qj1_ h hb
theorem WordsAt.at {w:World} {B c:Nat} {A:Option Addr} {ws:List ByteArray} (h:WordsAt w B A c ws) (i:Nat) (hi:i < ws.length):∃ ad,A=some ad∧w.cell? (ad.add i)=some (.string ws[i]):=by
  obtain ⟨ad,e,hc⟩:=Kd.at_string (Kd.qp1_ h).2.2 (i:Int) (by omega) (by omega)
  refine ⟨ad,e,?_⟩
  simpa [rdOf,List.getD_eq_getElem?_getD,List.getElem?_eq_getElem hi] using hc
theorem allWords_ (w:World) (d n:Nat) (hs:Sz d n):Calls Try.prog 175 #[.int .i64 (d:Int),.int .i64 (n:Int)] w fun e w'=>∃ A c,e=.returned (.slice A (wordsD d n).length c)∧WordsAt w' w.heap.size A c (wordsA d n)∧Below w.heap.size w w':=by
  obtain ⟨k,hk⟩:=(allWords_are d n hs.d3 hs.n8).rounds
  refine (qu1_.calls k d n _ w hk).mono ?_
  rintro e w' ⟨v,rfl,hv,hb⟩
  obtain ⟨A,c,rfl,h⟩:=WordsAt.of hv
  exact ⟨A,c,by rw [wordsA_len],h,hb⟩
/-- Of the same sizes. -/
def Like (o p:Tb):Prop:=o.d=p.d∧o.n=p.n∧o.Ok
theorem Like.chk {o p:Tb} (h:Like o p) (b:Bool):Like (o.chk b) p:=⟨h.1,h.2.1,h.2.2.chk b⟩
end Go.Proofs.Ytaiefdhenikiiaa.Base
namespace Go.Proofs.Ytaiefdhenikiiaa.Base
open Go.RowKit Go.Proofs.YtaiefdhenikiiaaW.PrintWords Go.Proofs.YtaiefdhenikiiaaW.PrintLast Go.Proofs.YtaiefdhenikiiaaW.PrintMore
set_option linter.unusedVariables false
set_option linter.unusedSimpArgs false
theorem Like.refl {t:Tb} (h:t.Ok):Like t t:=⟨rfl,rfl,h⟩
theorem Like.trans {a b c:Tb} (h:Like a b) (k:Like b c):Like a c:=⟨h.1.trans k.1,h.2.1.trans k.2.1,h.2.2⟩
theorem Like.len {a b:Tb} (h:Like a b) (hb:b.Ok):a.vs.length=b.vs.length:=by rw [h.2.2.len,hb.len,h.1,h.2.1]
theorem Like.sz {a b:Tb} (h:Like a b):Sz b.d b.n:=by have:=h.2.2.sz;rwa [h.1,h.2.1] at this
/-- A table that is there,of the sizes of p. -/
structure HasT (W:World) (g h:Nat) (t p:Tb):Prop where
  tab:TabAt W g h t
  like:Like t p
theorem HasT.below {W W':World} {g h:Nat} {t p:Tb} (H:HasT W g h t p) (hb:Below W.heap.size W W'):HasT W' g h t p:=⟨H.tab.below hb,H.like⟩
end Go.Proofs.Ytaiefdhenikiiaa.Base
