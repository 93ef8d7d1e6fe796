/- Texts that the proof of FnExactDynkinMap needs, part 7. No condition. -/
import Derived.Test.YtaiefdhenikiiaaMFnExactDynkinMap6
import Derived.Laws.CopyOwn
namespace Go.Proofs.Ytaiefdhenikiiaa.Base
open Go.RowKit Go.Proofs.YtaiefdhenikiiaaW.PrintWords Go.Proofs.YtaiefdhenikiiaaW.PrintLast Go.Proofs.YtaiefdhenikiiaaW.PrintMore
set_option linter.unusedVariables false
set_option linter.unusedSimpArgs false
theorem run_copy2 {P:Program} (w:World) (dT sT ty elem:TypeId) (g o dLen dCap:Nat) (a:Addr) (sLen sCap:Nat) (cur:Array Value) (t:TypeId) (cs:List Value)
    (hu:P.underlying dT=some (.slice elem)) (hs:(P.info? elem).map (·.size)=some 2)
    (hg:w.heap[g]?=some (.cells cur t (0,0))) (hn:cs.length=Nat.min sLen dLen * 2)
    (hsrc:∀ j v,cs[j]?=some v→w.cell? (a.add j)=some v) (hfit:o+cs.length≤cur.size) (h1:∀ v ∈ cs,v.oneCell'=true) :
    (Builtin.copy_ #[dT,sT] ty #[.slice (some ⟨g,o,none⟩) dLen dCap,.slice (some a) sLen sCap]).run P w =
      .ok (goInt (Nat.min sLen dLen:Nat)) (w.setRow g (cur.toList.take o ++ cs ++ cur.toList.drop (o+cs.length)).toArray):=by
  have hl:=run_loadCells_list (P:=P) w a cs hsrc
  have hst:=run_storeCells_at P g o t cs 0 cur w hg (by simpa using hfit) h1
  cases hq:P.info? elem with
  | none=>simp [hq] at hs
  | some i =>
    have hi:i.size=2:=by simpa [hq] using hs
    simp [Builtin.copy_,run_underlying hu,Builtin.lenOf,Builtin.firstCells,sizeOf,typeInfo,hq,hi,← hn,hl,hst]
theorem wpList_copy2 {P:Program} {w:World} {ops:Array Oper} {rest:List Oper} {o:Oper} {a:Act} {Q:Exit→Act→World→Prop} (hgd:o.guard=none) (d s:Operand) (dT sT:TypeId)
    (ho:o.op=.call { callee:=.builtin .copy,args:=#[d,s],argTypes:=#[dT,sT] }) (elem:TypeId) (hu:P.underlying dT=some (.slice elem)) (hsz:(P.info? elem).map (·.size)=some 2)
    (g off dLen dCap:Nat) (ad:Addr) (sLen sCap:Nat) (hd:a.eval d=.slice (some ⟨g,off,none⟩) dLen dCap) (hs:a.eval s=.slice (some ad) sLen sCap)
    (cur:Array Value) (t:TypeId) (hg:w.heap[g]?=some (.cells cur t (0,0))) (cs:List Value) (hn:cs.length=Nat.min sLen dLen * 2)
    (hsrc:∀ j v,cs[j]?=some v→w.cell? (ad.add j)=some v) (hfit:off+cs.length≤cur.size) (h1:∀ v ∈ cs,v.oneCell'=true)
    (B:Nat) (w0:World) (hb:Below B w0 w) (hBg:B≤g) (new:List Value) (hnew:cur.toList.take off ++ (cs ++ cur.toList.drop (off+cs.length))=new)
    (h:∀ w',w'.heap[g]?=some (.cells new.toArray t (0,0))→Below B w0 w'→wpList P ops Q rest (a.put o.dst (goInt (Nat.min sLen dLen:Nat))) w'):wpList P ops Q (o :: rest) a w:=by
  refine wpList_plain hgd fun K hK=>?_
  have hrun:=run_copy2 (P:=P) w dT sT o.type elem g off dLen dCap ad sLen sCap cur t cs hu hsz hg hn hsrc hfit h1
  unfold Oper.wp
  simp [execOp,ho,resolve,invoke,builtin,hd,hs,hrun,Result.andThen]
  refine hK _ _ (h _ ?_ (below_setRow hb hBg _))
  rw [setRow_heap w g cur _ t (0,0) hg,hnew]
theorem step_copy2 {P:Program} {ops:Array Oper} {o:Oper} {a:Act} {w:World} {K:Act→World→Prop} {Q:Exit→Act→World→Prop} {E:Prop} (hgd:o.guard=none) (d s:Operand) (dT sT:TypeId)
    (ho:o.op=.call { callee:=.builtin .copy,args:=#[d,s],argTypes:=#[dT,sT] }) (elem:TypeId) (hu:P.underlying dT=some (.slice elem)) (hsz:(P.info? elem).map (·.size)=some 2)
    (g off dLen dCap:Nat) (ad:Addr) (sLen sCap:Nat) (hd:a.eval d=.slice (some ⟨g,off,none⟩) dLen dCap) (hs:a.eval s=.slice (some ad) sLen sCap)
    (cur:Array Value) (t:TypeId) (hg:w.heap[g]?=some (.cells cur t (0,0))) (cs:List Value) (hn:cs.length=Nat.min sLen dLen * 2)
    (hsrc:∀ j v,cs[j]?=some v→w.cell? (ad.add j)=some v) (hfit:off+cs.length≤cur.size) (h1:∀ v ∈ cs,v.oneCell'=true)
    (B:Nat) (w0:World) (hb:Below B w0 w) (hBg:B≤g) (new:List Value) (hnew:cur.toList.take off ++ (cs ++ cur.toList.drop (off+cs.length))=new)
    (h:∀ w',w'.heap[g]?=some (.cells new.toArray t (0,0))→Below B w0 w'→K (a.put o.dst (goInt (Nat.min sLen dLen:Nat))) w') :
    if Region.wanted o (yielded ops a.tmps)=true then Oper.wp P o a w K Q else E:=by
  have hw:Region.wanted o (yielded ops a.tmps)=true:=by simp [Region.wanted,hgd]
  rw [if_pos hw]
  have hrun:=run_copy2 (P:=P) w dT sT o.type elem g off dLen dCap ad sLen sCap cur t cs hu hsz hg hn hsrc hfit h1
  unfold Oper.wp
  simp [execOp,ho,resolve,invoke,builtin,hd,hs,hrun,Result.andThen]
  refine h _ ?_ (below_setRow hb hBg _)
  rw [setRow_heap w g cur _ t (0,0) hg,hnew]
theorem cellsF_append (a b:List S77):cellsF (a ++ b)=cellsF a ++ cellsF b:=by simp [cellsF]
theorem cellsF_one (vs:List S77):∀ v ∈ cellsF vs,v.oneCell'=true:=by
  intro v hv
  simp only [cellsF,List.mem_flatMap] at hv
  obtain ⟨x,_,hx⟩:=hv
  simp at hx
  rcases hx with rfl|rfl <;> rfl
theorem cellsF_take (vs:List S77) (m:Nat):(cellsF vs).take (2 * m)=cellsF (vs.take m):=by
  induction vs generalizing m with
  | nil=>simp [cellsF]
  | cons x vs ih =>
    cases m with
    | zero=>simp [cellsF]
    | succ m=>have:=ih m;simp only [cellsF,List.flatMap_cons,List.take_succ_cons,Nat.mul_succ,List.cons_append,List.nil_append] at this ⊢;rw [this]
theorem cellsF_drop (vs:List S77) (m:Nat):(cellsF vs).drop (2 * m)=cellsF (vs.drop m):=by
  induction vs generalizing m with
  | nil=>simp [cellsF]
  | cons x vs ih =>
    cases m with
    | zero=>simp [cellsF]
    | succ m=>have:=ih m;simp only [cellsF,List.flatMap_cons,List.drop_succ_cons,Nat.mul_succ,List.cons_append,List.nil_append] at this ⊢;rw [this]
theorem made_cells (N:Nat):madeCells #[.int .i64 0,.int .i64 0] (N * 2)=(cellsF (List.replicate N z77)).toArray:=by
  apply Array.ext
  · simp [size_madeCells,cellsF_length,Nat.mul_comm]
  · intro i h1 h2
    rw [size_madeCells] at h1
    have e:(cellsF (List.replicate N z77))[i]?=some (.int .i64 0):=by
      rcases Nat.mod_two_eq_zero_or_one i with c|c
      · have:=cellsF_0 (List.replicate N z77) (i / 2) (by simp;omega)
        rw [show 2 * (i / 2)=i by omega] at this
        rw [this];simp [z77]
      · have:=cellsF_1 (List.replicate N z77) (i / 2) (by simp;omega)
        rw [show 2 * (i / 2)+1=i by omega] at this
        rw [this];simp [z77]
    have e2:(cellsF (List.replicate N z77)).toArray[i]=.int .i64 0:=by
      have:=List.getElem?_eq_some_iff.1 e
      obtain ⟨hh,he⟩:=this
      simpa using he
    rw [e2]
    simp only [madeCells,Array.getElem_map,Array.getElem_range]
    rcases Nat.mod_two_eq_zero_or_one i with c|c <;> simp [c]
theorem mul_one (d n:Nat) (hd:d ∈ [1,2,3]) (hn:n ∈ List.range 9):bits_Mul.f 1 (aheadN d (n+1):Int)=some (0,(aheadN d (n+1):Int)):=by
  revert n;revert d
  decide +kernel
theorem fr_src {w:World} {b:Nat} {a:S77} (h:FrAt w b a):∀ j v,(cellsF (List.replicate 1 a))[j]?=some v→w.cell? ((⟨b,0,none⟩:Addr).add j)=some v:=by
  intro j v hj
  rw [add_plain]
  match j,hj with
  | 0,hj=>exact h.c0.trans hj
  | 1,hj=>exact h.c1.trans hj
  | j+2,hj=>simp [cellsF] at hj
/-- n values of 0,then what make left. -/
def fill (n N:Nat):List S77:=List.replicate n zeroF ++ List.replicate (N - n) z77
theorem fill_length (n N:Nat) (h:n≤N):(fill n N).length=N:=by simp [fill];omega
theorem fill_step (n m N:Nat) (h:n+m≤N):((cellsF (fill n N)).take (n * 2) ++ (cellsF (List.replicate m zeroF) ++ (cellsF (fill n N)).drop (n * 2+(cellsF (List.replicate m zeroF)).length)))=cellsF (fill (n+m) N):=by
  rw [cellsF_length,List.length_replicate,show n * 2+2 * m=2 * (n+m) by omega,Nat.mul_comm n 2,cellsF_take,cellsF_drop,← cellsF_append,← cellsF_append]
  congr 1
  unfold fill
  rw [List.take_append_of_le_length (by simp),List.take_of_length_le (by simp),List.drop_append,List.drop_eq_nil_of_le (by simp),List.length_replicate,List.drop_replicate,← List.append_assoc,List.replicate_append_replicate]
  simp;omega
theorem fill_src {w:World} {g n N:Nat} {e:TypeId} (hg:w.heap[g]?=some (.cells (cellsF (fill n N)).toArray e (0,0))) (hn:n≤N):∀ j v,(cellsF (List.replicate (min n (N - n)) zeroF))[j]?=some v→w.drew.cell? ((⟨g,0,none⟩:Addr).add j)=some v:=by
  intro j v hj
  have hjl:j < 2 * min n (N - n):=by
    have:=(List.getElem?_eq_some_iff.1 hj).1
    rwa [cellsF_length,List.length_replicate] at this
  rw [add_plain]
  show w.cell? ⟨g,j,none⟩=some v
  rw [qg_ hg,List.getElem?_toArray,← hj]
  have e1:cellsF (List.replicate (min n (N - n)) zeroF)=(cellsF (fill n N)).take (2 * min n (N - n)):=by
    rw [cellsF_take]
    congr 1
    unfold fill
    rw [List.take_append_of_le_length (by simp;omega),List.take_replicate]
    congr 1;omega
  rw [e1,List.getElem?_take,if_pos hjl]
set_option maxHeartbeats 8000000 in
set_option maxRecDepth 100000 in
theorem repeat_ (w:World) (N:Nat) (hm:bits_Mul.f 1 (N:Int)=some (0,(N:Int))) (h0:1≤N) (hN:N≤20000) (b c:Nat) (hx:FrAt w b zeroF) :
    Calls Try.prog 179 #[.slice (some ⟨b,0,none⟩) 1 c,.int .i64 N] w fun e w'=>∃ h,e=.returned (.slice (some ⟨h,0,none⟩) N N)∧w'.heap[h]?=some (.cells (cellsF (List.replicate N zeroF)).toArray 77 (0,0))∧w.heap.size≤h∧Below w.heap.size w w':=by
  have hmk:=fun W=>run_make (P:=Try.prog) (w:=W) 124 77 _ (.agg #[.int .i64 0,.int .i64 0]) rfl rfl rfl .i64 .i64 (N:Int) (N:Int) (by omega) (by omega) (by show (16:Int) * N≤_;omega) (by omega)
  have w1:wrap64 (N:Int)=N:=w64 (by omega) (by omega)
  have HX:=Aside0.mk hx
  have HM:=Aside0.mk hm
  clear hx hm
  go_enter Try.func179,Try.ntmps179
  go_wp2_with (first
    | (go_at_call 216;refine (bits_Mul.calls 1 N 0 N _ HM.out).mono ?_;rintro e w1 ⟨rfl,⟨nd,rfl⟩⟩)
    | ((with_reducible refine qi2_ (b:=.copy) (xs:=#[.tmp 31,.tmp 32]) rfl ?_);refine wpList_copy2 rfl (.tmp 31) (.tmp 32) 124 124 rfl 77 rfl rfl w.heap.size 0 N N ⟨b,0,none⟩ 1 c rfl rfl (cellsF (fill 0 N)).toArray 77 ?hg (cellsF (List.replicate 1 zeroF)) ?hn ?hsrc ?hfit (cellsF_one _) w.heap.size w ?hb (Nat.le_refl _) (cellsF (fill 1 N)) ?hnew ?_;(case hg=>exact (new_at (by simp)).trans (by rw [show fill 0 N=List.replicate N z77 from by simp [fill],← made_cells];rfl));(case hn=>rw [cellsF_length,List.length_replicate,show Nat.min 1 N=1 from Nat.min_eq_left h0]);(case hsrc=>exact fr_src ((HX.out.drewN _).alloc _));(case hfit=>rw [List.size_toArray,cellsF_length,cellsF_length,fill_length _ _ (Nat.zero_le _),List.length_replicate];omega);(case hb=>exact qb_ (qa_ (Below.refl _ _) _) _);(case hnew=>exact fill_step 0 1 N (by omega));intro w1 hg1 hb1;rw [show Nat.min 1 N=1 from Nat.min_eq_left h0];have HG:=Aside0.mk hg1;have HB:=Aside0.mk hb1;clear hg1 hb1))
  go_loopg [8] N (fun gg v8 wr=>∃ n:Nat,1≤n∧n≤N∧N - n≤gg∧v8=.int .i64 n∧Aside0 (wr.heap[w.heap.size]?=some (.cells (cellsF (fill n N)).toArray 77 (0,0)))∧Aside0 (Below w.heap.size w wr))
  case atStart=>exact ⟨1,Nat.le_refl _,h0,by omega,rfl,HG,HB⟩
  case round =>
    obtain ⟨n,hn1,hnN,hg,rfl,HG2,HB2⟩:=hrel
    clear HG HB
    by_cases hlt:n < N
    · have hltz:(n:Int) < (N:Int):=by omega
      go_wp2
      have HN:=Aside0.mk hlt
      go_region_held3 (fun _=>True) (trivial) ((refine step_copy2 rfl (.tmp 41) (.tmp 44) 124 124 rfl 77 rfl rfl w.heap.size (n * 2) (N - n) (N - n) ⟨w.heap.size,0,none⟩ n N (congrArg (fun z=>Value.slice z (N - n) (N - n)) (if_neg (by have:=HN.out;omega))) rfl (cellsF (fill n N)).toArray 77 HG2.out (cellsF (List.replicate (min n (N - n)) zeroF)) (by rw [cellsF_length,List.length_replicate];exact Nat.mul_comm _ _) (fill_src HG2.out hnN) (by rw [List.size_toArray,cellsF_length,cellsF_length,fill_length _ _ hnN,List.length_replicate];omega) (cellsF_one _) w.heap.size w (qc_ HB2.out) (Nat.le_refl _) (cellsF (fill (n+min n (N - n)) N)) (fill_step n _ N (by omega)) ?_;intro w2 hg2 hb2;have HG3:=Aside0.mk hg2;have HB3:=Aside0.mk hb2;clear hg2 hb2))
      go_wp2
      go_roundg (N - (n+min n (N - n)))
      case measure=>omega
      case rel =>
        refine ⟨n+min n (N - n),by omega,by omega,by omega,?_,HG3,HB3⟩
        congr 1
        rw [i64_w]
        have:Nat.min n (N - n)=min n (N - n):=rfl
        rw [this,w64 (by omega) (by omega)];omega
    · have hltz:¬ (n:Int) < (N:Int):=by omega
      obtain rfl:n=N:=by omega
      go_wp2
      go_returns
      refine ⟨_,rfl,?_,Nat.le_refl _,HB2.out⟩
      rw [HG2.out];simp [fill]
/-- A table of values 0. -/
def zeroT (d n:Nat):Tb:=⟨d,n,List.replicate (wordsD d n).length zeroF,false⟩
theorem zeroT_ok {d n:Nat} (h:Sz d n):(zeroT d n).Ok:=⟨h,by simp [zeroT],fun x hx=>by rw [(List.mem_replicate.1 hx).2];exact zero_okF⟩
/-- A table that a call has made. -/
def NewTab (w:World) (t:Tb) (e:Ending) (w':World):Prop:=∃ g h,e=.returned (.pointer (some ⟨g,0,none⟩))∧TabAt w' g h t∧w.heap.size≤g∧w.heap.size≤h∧Below w.heap.size w w'
set_option maxHeartbeats 8000000 in
set_option maxRecDepth 100000 in
theorem newTable_ (w:World) (d n:Nat) (hs:Sz d n):Calls Try.prog 126 #[.int .i64 (d:Int),.int .i64 (n:Int)] w (NewTab w (zeroT d n)):=by
  have hu:=Try.underlying77
  obtain ⟨k,hk⟩:=(allWords_are d n hs.d3 hs.n8).rounds
  have hl1:=wordsD_small d n hs.d3 hs.n8
  have hl0:1≤(wordsD d n).length:=by have:=numN_lt d n [] ⟨by simp,by simp⟩;omega
  have hmu:bits_Mul.f 1 ((wordsD d n).length:Int)=some (0,((wordsD d n).length:Int)):=by
    rw [wordsD_len]
    exact mul_one d n (by have:=hs.d1;have:=hs.d3;simp;omega) (by have:=hs.n8;simp;omega)
  have hz:(zeroT d n).vs.length=(wordsD d n).length:=by simp [zeroT]
  obtain ⟨N,hN⟩:∃ N,N=(wordsD d n).length:=⟨_,rfl⟩
  have hwl:(wordsA d n).length=N:=by rw [wordsA_len,hN]
  rw [← hN] at hl1 hl0 hmu hz
  have HK:=Aside0.mk hk
  have HM:=Aside0.mk hmu
  have HZ:=Aside0.mk hz
  have HE:=Aside0.mk hN
  have HWL:=Aside0.mk hwl
  clear hk hmu hz hN hwl
  go_enter Try.func126,Try.ntmps126
  go_wp2_with (first
    | (go_at_call 180;refine (impl_zero.calls 0 1 _ rfl).mono ?_;rintro e w1 ⟨rfl,hb⟩;have HB:=Aside0.mk hb;clear hb)
    | (go_at_call 175;refine (qn1_.calls k d n _ _ HK.out).mono ?_;rintro e w2 ⟨v,rfl,hv,hb⟩;have HF:=Aside0.mk (show FrAt w2 w1.heap.size zeroF from (FrAt.new w1 zeroF).below hb);have HB2:=Aside0.mk (show Below w.heap.size w w2 from qj_ (qb_ HB.out _) hb);obtain ⟨A,c,rfl⟩:=Kd.qf2_ hv;rw [HWL.out];clear hv hb)
    | (go_at_call 179;refine (repeat_ _ N HM.out hl0 (by omega) w1.heap.size 1 HF.out).mono ?_;rintro e w3 ⟨h,rfl,hh,hge,hb⟩;have HH:=Aside0.mk hh;have HB3:=Aside0.mk (show Below w.heap.size w w3 from qj_ HB2.out hb);have HG:=Aside0.mk hge;clear hh hge hb))
  go_returns
  refine ⟨_,h,rfl,⟨?_,?_⟩,HB3.out.size,Nat.le_trans HB2.out.size HG.out,qb_ HB3.out _⟩
  · have:=new_at (W:=w3) (cs:=#[.int .i64 (d:Int),.int .i64 (n:Int),.slice (some ⟨h,0,none⟩) N N,.bool false]) (e:=126) rfl
    simpa [zeroT,← HE.out] using this
  · have:=old_at (o:=.cells #[.int .i64 (d:Int),.int .i64 (n:Int),.slice (some ⟨h,0,none⟩) N N,.bool false] 126) HH.out
    simpa [zeroT,← HE.out] using this
end Go.Proofs.Ytaiefdhenikiiaa.Base
namespace Go.Proofs.Ytaiefdhenikiiaa.Base
open Go.RowKit Go.Proofs.YtaiefdhenikiiaaW.PrintWords Go.Proofs.YtaiefdhenikiiaaW.PrintLast Go.Proofs.YtaiefdhenikiiaaW.PrintMore
set_option linter.unusedVariables false
set_option linter.unusedSimpArgs false
theorem NewTab.from {w w1:World} {t:Tb} {e:Ending} {w':World} (hb:Below w.heap.size w w1) (h:NewTab w1 t e w'):NewTab w t e w':=by
  obtain ⟨g,k,he,T,hg,hh,hb2⟩:=h
  exact ⟨g,k,he,T,Nat.le_trans hb.size hg,Nat.le_trans hb.size hh,qj_ hb hb2⟩
set_option maxHeartbeats 8000000 in
set_option maxRecDepth 100000 in
theorem like' (w:World) (g h:Nat) (t:Tb) (H:TabAt w g h t) (hs:Sz t.d t.n):Calls Try.prog 182 #[.pointer (some ⟨g,0,none⟩)] w (NewTab w (zeroT t.d t.n)):=by
  have h0:=H.c0
  have h1:=H.c1
  go_enter Try.func182,Try.ntmps182
  go_wp2
  go_region_held3 (fun w'=>w'.cell? ⟨g,0,none⟩=some (.int .i64 (t.d:Int))∧w'.cell? ⟨g,1,none⟩=some (.int .i64 (t.n:Int))) (go_keep) (first|(go_at_call 126;refine (newTable_ _ t.d t.n hs).mono ?_;rintro e w1 ⟨g1,k1,rfl,T,hg,hh,hb⟩;have z0:=qq_ hb h0;have z1:=qq_ hb h1))
  go_wp2
  go_returns
  exact ⟨g1,k1,rfl,T,hg,hh,qj_ (qc_ (Below.refl _ _)) hb⟩
def oneF:S77:=⟨1,1⟩
theorem one_okF:okF oneF:=by decide
end Go.Proofs.Ytaiefdhenikiiaa.Base
namespace Go.Proofs.Ytaiefdhenikiiaa.Base
open Go.RowKit Go.Proofs.YtaiefdhenikiiaaW.PrintWords Go.Proofs.YtaiefdhenikiiaaW.PrintLast Go.Proofs.YtaiefdhenikiiaaW.PrintMore
set_option linter.unusedVariables false
set_option linter.unusedSimpArgs false
/-- One value is put in,if it fits. -/
def Tb.putF (t:Tb) (i:Nat) (p:S77 × Bool):Tb:=(t.chk p.2).put i (chkF p.1 p.2)
theorem Tb.Ok.putF {t:Tb} (h:t.Ok) (i:Nat) (p:S77 × Bool) (hp:p.2=true→okF p.1):(t.putF i p).Ok:=(h.chk _).put i (chkF_ok hp)
/-- The values of P one after the other,from the table out on. -/
def fillT (P:Nat→S77 × Bool) (out:Tb) (n:Nat):Tb:=(List.range n).foldl (fun o i=>o.putF i (P i)) out
theorem fillT_succ (P:Nat→S77 × Bool) (out:Tb) (n:Nat):fillT P out (n+1)=(fillT P out n).putF n (P n):=by unfold fillT;rw [List.range_succ,List.foldl_append];rfl
theorem fillT_dn (P:Nat→S77 × Bool) (out:Tb) (n:Nat):(fillT P out n).d=out.d∧(fillT P out n).n=out.n∧(fillT P out n).vs.length=out.vs.length:=by
  induction n with
  | zero=>exact ⟨rfl,rfl,rfl⟩
  | succ n ih=>rw [fillT_succ];simpa [Tb.putF,Tb.put,Tb.chk] using ih
theorem fillT_ok (P:Nat→S77 × Bool) {out:Tb} (h:out.Ok) (n:Nat) (hP:∀ i,i < n→(P i).2=true→okF (P i).1):(fillT P out n).Ok:=by
  induction n with
  | zero=>exact h
  | succ n ih=>rw [fillT_succ];exact (ih fun i hi=>hP i (by omega)).putF n _ (hP n (by omega))
/-- Zeros,with a mark. -/
def badT (d n:Nat) (b:Bool):Tb:=⟨d,n,List.replicate (wordsD d n).length zeroF,b⟩
def sumP (t u:Tb) (i:Nat):S77 × Bool:=plusM (t.vs.getD i zeroF) (u.vs.getD i zeroF)
def sumT (t u:Tb):Tb:=fillT (sumP t u) (badT t.d t.n (t.bad || u.bad)) t.vs.length
theorem sumT_dn (t u:Tb):(sumT t u).d=t.d∧(sumT t u).n=t.n:=⟨(fillT_dn _ _ _).1,(fillT_dn _ _ _).2.1⟩
theorem badZ_ok {d n:Nat} (h:Sz d n) (b:Bool):(badT d n b).Ok:=⟨h,(zeroT_ok h).len,(zeroT_ok h).fr⟩
theorem sumT_ok {t u:Tb} (h:t.Ok):(sumT t u).Ok:=fillT_ok _ (badZ_ok h.sz _) _ (fun i _ hp=>plus_okF hp)
set_option maxHeartbeats 16000000 in
set_option maxRecDepth 100000 in
theorem sum' (w:World) (g h:Nat) (t:Tb) (H:TabAt w g h t) (ht:t.Ok) (g2 h2:Nat) (u:Tb) (H2:TabAt w g2 h2 u) (hu:u.Ok) (hl:u.vs.length=t.vs.length) :
    Calls Try.prog 129 #[.pointer (some ⟨g,0,none⟩),.pointer (some ⟨g2,0,none⟩)] w (NewTab w (sumT t u)):=by
  have hF:=Try.underlying77
  have HT:=Aside0.mk H
  have HU:=Aside0.mk H2
  have OT:=Aside0.mk ht
  have OU:=Aside0.mk hu
  have HL:=Aside0.mk hl
  have hsm:t.vs.length≤19683:=by rw [ht.len];exact wordsD_small _ _ ht.sz.d3 ht.sz.n8
  have HSM:=Aside0.mk hsm
  clear H H2 ht hu hl hsm
  go_enter Try.func129,Try.ntmps129
  go_wp2_with (go_at_call 182;refine (like' _ g h t HT.out OT.out.sz).mono ?_;rintro e w1 ⟨g1,k1,rfl,T,hg,hh,hb⟩;have HO:=Aside0.mk T;have HG:=Aside0.mk hg;have HH:=Aside0.mk hh;have HB:=Aside0.mk hb;have HT1:=Aside0.mk (HT.out.below hb);have HU1:=Aside0.mk (HU.out.below hb);have a3:=HT1.out.c3;have a2:=HT1.out.c2;have n1:g1 ≠ g:=(by have:=HT.out.ltg;omega);have b3:=HU1.out.c3;have o3:=T.c3;have of:=qd_ T.st 3;clear T hg hh hb)
  all_goals
    generalize hW:World.setCell _ _ _=w2
    have O2:TabAt w2 g1 k1 (badT t.d t.n (t.bad || u.bad)):=by
      rw [← hW]
      have:=HO.out.setBad (t.bad || u.bad)
      simpa [badT,zeroT, *] using this
    have M2:Below w.heap.size w w2:=by rw [← hW];exact HB.out.setCell HG.out _
    have T2:TabAt w2 g h t:=by rw [← hW];exact HT1.out.far n1.symm (by have:=HT.out.lth;have:=HG.out;simp;omega) _
    have U2:TabAt w2 g2 h2 u:=by rw [← hW];exact HU1.out.far (by have:=HU.out.ltg;have:=HG.out;simp;omega) (by have:=HU.out.lth;have:=HG.out;simp;omega) _
    have HO2:=Aside0.mk O2
    have HM2:=Aside0.mk M2
    have HT2:=Aside0.mk T2
    have HU2:=Aside0.mk U2
    clear O2 M2 T2 U2 hW HO HB HT1 HU1 a3 a2 b3 o3 of
    have hN:(badT t.d t.n (t.bad || u.bad)).vs.length=t.vs.length:=by rw [OT.out.len];simp [badT]
    go_loopg [28] t.vs.length (fun gg v28 wr=>∃ i:Nat,i≤t.vs.length∧t.vs.length - i≤gg∧v28=.int .i64 i∧Aside0 (TabAt wr g1 k1 (fillT (sumP t u) (badT t.d t.n (t.bad || u.bad)) i))∧Aside0 (Below w.heap.size w wr))
    case atStart=>exact ⟨0,Nat.zero_le _,by omega,rfl,HO2,HM2⟩
    case round =>
      obtain ⟨i,hi,hg,rfl,HO,HB⟩:=hrel
      clear HO2 HM2 HT2 HU2
      by_cases hlt:i < t.vs.length
      · have hltz:(i:Int) < (t.vs.length:Int):=by omega
        have hlu:i < u.vs.length:=by have:=HL.out;omega
        have hlz:(i:Int) < (u.vs.length:Int):=by omega
        have T:=HT.out.below HB.out
        have U:=HU.out.below HB.out
        have e1:t.vs.getD i zeroF=t.vs[i]:=by rw [List.getD_eq_getElem?_getD,List.getElem?_eq_getElem hlt,Option.getD_some]
        have e2:u.vs.getD i zeroF=u.vs[i]:=by rw [List.getD_eq_getElem?_getD,List.getElem?_eq_getElem hlu,Option.getD_some]
        obtain ⟨k,hk⟩:=(plus_is (a:=t.vs[i]) (b:=u.vs[i]) (OT.out.fr _ (List.getElem_mem hlt)) (OU.out.fr _ (List.getElem_mem hlu))).rounds
        have HK:=Aside0.mk hk
        have hlen:(fillT (sumP t u) (badT t.d t.n (t.bad || u.bad)) i).vs.length=t.vs.length:=(fillT_dn _ _ _).2.2.trans hN
        have HLN:=Aside0.mk hlen
        obtain ⟨O,hO⟩:∃ O,O=fillT (sumP t u) (badT t.d t.n (t.bad || u.bad)) i:=⟨_,rfl⟩
        rw [← hO] at HO HLN
        have HOO:=Aside0.mk hO
        have E1:=Aside0.mk e1
        have E2:=Aside0.mk e2
        have a0:=T.v0 i hlt
        have a1:=T.v1 i hlt
        have b2:=U.c2
        have b0:=U.v0 i hlu
        have b1:=U.v1 i hlu
        have o2:=HO.out.c2
        rw [HLN.out] at o2
        have HU1:=Aside0.mk U
        have lo1:=HO.out.ltg
        have lo2:=HO.out.lth
        have lu1:=U.ltg
        have lu2:=U.lth
        have m1:k1 ≠ g1:=HO.out.ne.symm
        have m2:k1 ≠ wr.heap.size:=by omega
        have m3:k1 ≠ g2:=by have:=HU.out.ltg;have:=HH.out;omega
        have m4:k1 ≠ h2:=by have:=HU.out.lth;have:=HH.out;omega
        have m5:g1 ≠ g2:=by have:=HU.out.ltg;have:=HG.out;omega
        have m6:g1 ≠ h2:=by have:=HU.out.lth;have:=HG.out;omega
        have q1:wr.heap.size ≠ g2:=by omega
        have q2:wr.heap.size ≠ h2:=by omega
        have q3:wr.heap.size ≠ g1:=by omega
        clear hk hlen hO e1 e2 T U
        go_wp2
        go_region_held3 (fun w'=>w'.cell? ⟨g1,2,none⟩=some (.slice (some ⟨k1,0,none⟩) t.vs.length t.vs.length)∧w'.cell? ⟨wr.heap.size,0,none⟩=some (.int .i64 t.vs[i].f0)∧w'.cell? ⟨wr.heap.size,1,none⟩=some (.int .i64 t.vs[i].f1)∧w'.cell? ⟨g2,2,none⟩=some (.slice (some ⟨h2,0,none⟩) u.vs.length u.vs.length)∧w'.cell? ⟨h2,i * 2,none⟩=some (.int .i64 u.vs[i].f0)∧w'.cell? ⟨h2,i * 2+1,none⟩=some (.int .i64 u.vs[i].f1)) (go_keep) (first
          | (go_at_call 183;refine (qc2_.calls k _ _ _ _ _ _ _ _ HK.out).mono ?_;rintro e w2 ⟨rfl,hb⟩;have O2:=(HO.out.alloc (.cells #[.int .i64 t.vs[i].f0,.int .i64 t.vs[i].f1] 77)).drew.below hb;have U2:=(HU1.out.alloc (.cells #[.int .i64 t.vs[i].f0,.int .i64 t.vs[i].f1] 77)).drew.below hb;have X2:=(FrAt.new wr t.vs[i]).drew.below hb;have HB2:=Aside0.mk (show Below w.heap.size w w2 from qj_ (qc_ (qb_ HB.out _)) hb);have HO2:=Aside0.mk O2;have HU2:=Aside0.mk U2;have HX2:=Aside0.mk X2;have c1:=O2.c2;have c2:=X2.c0;have c3:=X2.c1;have c4:=U2.c2;have c5:=U2.v0 i hlu;have c6:=U2.v1 i hlu;rw [HLN.out] at c1;clear O2 U2 X2 hb)
          | (go_at_call 127;refine (check_ _ g1 k1 O HO2.out (plusM t.vs[i] u.vs[i]).1 (plusM t.vs[i] u.vs[i]).2).mono ?_;rintro e w3 ⟨rfl,O3,m⟩;have U3:=m.tab HU2.out (fun e=>m5 e.symm) (fun e=>m6 e.symm);have X3:=HX2.out.mut m q3;have HB3:=Aside0.mk (show Below w.heap.size w w3 from m.below HB2.out HB2.out.size (fun j _ e=>e ▸ HG.out));have HO3:=Aside0.mk O3;have d1:w3.cell? ⟨g1,2,none⟩=some (.slice (some ⟨k1,0,none⟩) O.vs.length O.vs.length):=O3.c2;have d2:=X3.c0;have d3:=X3.c1;have d4:=U3.c2;have d5:=U3.v0 i hlu;have d6:=U3.v1 i hlu;have d7:=O3.v0 i (by show i < O.vs.length;have:=HLN.out;omega);have d8:=O3.v1 i (by show i < O.vs.length;have:=HLN.out;omega);have d9:=qd_ O3.vl (i * 2);have da:=qd_ O3.vl (i * 2+1);rw [HLN.out] at d1;clear O3 U3 X3 m))
        go_wp2
        go_roundg (t.vs.length - (i+1))
        case measure=>omega
        case rel =>
          refine ⟨i+1,by omega,by omega,by have:=HSM.out;rw [w64 (by omega) (by omega)];rfl,⟨?_⟩,⟨(HB3.out.setCell HH.out _).setCell HH.out _⟩⟩
          have:=HO3.out.put i (by show i < O.vs.length;have:=HLN.out;omega) (chkF (plusM t.vs[i] u.vs[i]).1 (plusM t.vs[i] u.vs[i]).2)
          rw [fillT_succ,← HOO.out]
          unfold sumP Tb.putF
          rw [E1.out,E2.out]
          exact this
      · have hltz:¬ (i:Int) < (t.vs.length:Int):=by omega
        have:i=t.vs.length:=by omega
        subst this
        go_wp2
        go_returns
        exact ⟨g1,k1,rfl,HO.out,HG.out,HH.out,HB.out⟩
end Go.Proofs.Ytaiefdhenikiiaa.Base
namespace Go.Proofs.Ytaiefdhenikiiaa.Base
open Go.RowKit Go.Proofs.YtaiefdhenikiiaaW.PrintWords Go.Proofs.YtaiefdhenikiiaaW.PrintLast Go.Proofs.YtaiefdhenikiiaaW.PrintMore
set_option linter.unusedVariables false
set_option linter.unusedSimpArgs false
def scaleP (t:Tb) (a:S77) (i:Nat):S77 × Bool:=timesM (t.vs.getD i zeroF) a
def scaleT (t:Tb) (a:S77):Tb:=fillT (scaleP t a) (badT t.d t.n t.bad) t.vs.length
theorem scaleT_dn (t:Tb) (a:S77):(scaleT t a).d=t.d∧(scaleT t a).n=t.n:=⟨(fillT_dn _ _ _).1,(fillT_dn _ _ _).2.1⟩
theorem scaleT_ok {t:Tb} (a:S77) (h:t.Ok):(scaleT t a).Ok:=fillT_ok _ (badZ_ok h.sz _) _ (fun i _ hp=>times_okF hp)
set_option maxHeartbeats 16000000 in
set_option maxRecDepth 100000 in
theorem scaled' (w:World) (g h:Nat) (t:Tb) (H:TabAt w g h t) (ht:t.Ok) (a:S77) (ha:okF a) :
    Calls Try.prog 130 #[.pointer (some ⟨g,0,none⟩),.agg #[.int .i64 a.f0,.int .i64 a.f1]] w (NewTab w (scaleT t a)):=by
  have hF:=Try.underlying77
  have HT:=Aside0.mk H
  have OT:=Aside0.mk ht
  have HA:=Aside0.mk ha
  have hsm:t.vs.length≤19683:=by rw [ht.len];exact wordsD_small _ _ ht.sz.d3 ht.sz.n8
  have HSM:=Aside0.mk hsm
  clear H ht ha hsm
  go_enter Try.func130,Try.ntmps130
  go_wp2_with (go_at_call 182;refine (like' _ g h t (HT.out.alloc _) OT.out.sz).mono ?_;rintro e w1 ⟨g1,k1,rfl,T,hg,hh,hb⟩;have HO:=Aside0.mk T;have HG:=Aside0.mk (show w.heap.size < g1 by have:=hg;simp at this;omega);have HH:=Aside0.mk (show w.heap.size < k1 by have:=hh;simp at this;omega);have HB:=Aside0.mk (show Below w.heap.size w w1 from qj_ (qb_ (Below.refl _ _) _) hb);have HX1:=Aside0.mk ((FrAt.new w a).below hb);have HT1:=Aside0.mk ((HT.out.alloc _).below hb);have a3:=HT1.out.c3;have a2:=HT1.out.c2;have n1:g1 ≠ g:=(by have:=HT.out.ltg;have:=HG.out;omega);have o3:=T.c3;have of:=qd_ T.st 3;clear T hg hh hb)
  generalize hW:World.setCell _ _ _=w2
  have O2:TabAt w2 g1 k1 (badT t.d t.n t.bad):=by
    rw [← hW]
    have:=HO.out.setBad t.bad
    simpa [badT,zeroT, *] using this
  have HO2:=Aside0.mk O2
  have HM2:=Aside0.mk (show Below w.heap.size w w2 by rw [← hW];exact HB.out.setCell (Nat.le_of_lt HG.out) _)
  have HX2:=Aside0.mk (show FrAt w2 w.heap.size a by rw [← hW];exact HX1.out.far (by have:=HG.out;simp;omega) _)
  clear O2 hW HO HB HT1 HX1 a3 a2 o3 of
  have hN:(badT t.d t.n t.bad).vs.length=t.vs.length:=by rw [OT.out.len];simp [badT]
  go_loopg [22] t.vs.length (fun gg v22 wr=>∃ i:Nat,i≤t.vs.length∧t.vs.length - i≤gg∧v22=.int .i64 i∧Aside0 (TabAt wr g1 k1 (fillT (scaleP t a) (badT t.d t.n t.bad) i))∧Aside0 (Below w.heap.size w wr)∧Aside0 (FrAt wr w.heap.size a))
  case atStart=>exact ⟨0,Nat.zero_le _,by omega,rfl,HO2,HM2,HX2⟩
  case round =>
    obtain ⟨i,hi,hg,rfl,HO,HB,HX⟩:=hrel
    clear HO2 HM2 HX2
    by_cases hlt:i < t.vs.length
    · have hltz:(i:Int) < (t.vs.length:Int):=by omega
      have T:=HT.out.below HB.out
      have e1:t.vs.getD i zeroF=t.vs[i]:=by rw [List.getD_eq_getElem?_getD,List.getElem?_eq_getElem hlt,Option.getD_some]
      obtain ⟨k,hk⟩:=(times_is (a:=t.vs[i]) (b:=a) (OT.out.fr _ (List.getElem_mem hlt)) HA.out).rounds
      have HK:=Aside0.mk hk
      have hlen:(fillT (scaleP t a) (badT t.d t.n t.bad) i).vs.length=t.vs.length:=(fillT_dn _ _ _).2.2.trans hN
      have HLN:=Aside0.mk hlen
      obtain ⟨O,hO⟩:∃ O,O=fillT (scaleP t a) (badT t.d t.n t.bad) i:=⟨_,rfl⟩
      rw [← hO] at HO HLN
      have HOO:=Aside0.mk hO
      have E1:=Aside0.mk e1
      have a0:=T.v0 i hlt
      have a1:=T.v1 i hlt
      have b0:=HX.out.c0
      have b1:=HX.out.c1
      have o2:=HO.out.c2
      rw [HLN.out] at o2
      have lo1:=HO.out.ltg
      have lo2:=HO.out.lth
      have lx:=HX.out.lt
      have m1:k1 ≠ g1:=HO.out.ne.symm
      have m2:k1 ≠ wr.heap.size:=by omega
      have m3:k1 ≠ w.heap.size:=by have:=HH.out;omega
      have m5:g1 ≠ w.heap.size:=by have:=HG.out;omega
      have q1:wr.heap.size ≠ w.heap.size:=by omega
      have q3:wr.heap.size ≠ g1:=by omega
      clear hk hlen hO e1 T
      go_wp2
      go_region_held3 (fun w'=>w'.cell? ⟨g1,2,none⟩=some (.slice (some ⟨k1,0,none⟩) t.vs.length t.vs.length)∧w'.cell? ⟨wr.heap.size,0,none⟩=some (.int .i64 t.vs[i].f0)∧w'.cell? ⟨wr.heap.size,1,none⟩=some (.int .i64 t.vs[i].f1)∧w'.cell? ⟨w.heap.size,0,none⟩=some (.int .i64 a.f0)∧w'.cell? ⟨w.heap.size,1,none⟩=some (.int .i64 a.f1)) (go_keep) (first
        | (go_at_call 128;refine (qy1_.calls k _ _ _ _ _ _ _ _ HK.out).mono ?_;rintro e w2 ⟨rfl,hb⟩;have O2:=(HO.out.alloc (.cells #[.int .i64 t.vs[i].f0,.int .i64 t.vs[i].f1] 77)).drew.below hb;have A2:=(HX.out.alloc (.cells #[.int .i64 t.vs[i].f0,.int .i64 t.vs[i].f1] 77)).drew.below hb;have X2:=(FrAt.new wr t.vs[i]).drew.below hb;have HB2:=Aside0.mk (show Below w.heap.size w w2 from qj_ (qc_ (qb_ HB.out _)) hb);have HO2:=Aside0.mk O2;have HA2:=Aside0.mk A2;have HX2:=Aside0.mk X2;have c1:=O2.c2;have c2:=X2.c0;have c3:=X2.c1;have c5:=A2.c0;have c6:=A2.c1;rw [HLN.out] at c1;clear O2 A2 X2 hb)
        | (go_at_call 127;refine (check_ _ g1 k1 O HO2.out (timesM t.vs[i] a).1 (timesM t.vs[i] a).2).mono ?_;rintro e w3 ⟨rfl,O3,m⟩;have A3:=HA2.out.mut m (fun e=>m5 e.symm);have X3:=HX2.out.mut m q3;have HB3:=Aside0.mk (show Below w.heap.size w w3 from m.below HB2.out HB2.out.size (fun j _ e=>e ▸ Nat.le_of_lt HG.out));have HO3:=Aside0.mk O3;have HA3:=Aside0.mk A3;have d1:w3.cell? ⟨g1,2,none⟩=some (.slice (some ⟨k1,0,none⟩) O.vs.length O.vs.length):=O3.c2;have d2:=X3.c0;have d3:=X3.c1;have d5:=A3.c0;have d6:=A3.c1;have d7:=O3.v0 i (by show i < O.vs.length;have:=HLN.out;omega);have d8:=O3.v1 i (by show i < O.vs.length;have:=HLN.out;omega);have d9:=qd_ O3.vl (i * 2);have da:=qd_ O3.vl (i * 2+1);rw [HLN.out] at d1;clear O3 A3 X3 m))
      go_wp2
      go_roundg (t.vs.length - (i+1))
      case measure=>omega
      case rel =>
        refine ⟨i+1,by omega,by omega,by have:=HSM.out;rw [w64 (by omega) (by omega)];rfl,⟨?_⟩,⟨(HB3.out.setCell (Nat.le_of_lt HH.out) _).setCell (Nat.le_of_lt HH.out) _⟩,⟨(HA3.out.far m3.symm _).far m3.symm _⟩⟩
        have:=HO3.out.put i (by show i < O.vs.length;have:=HLN.out;omega) (chkF (timesM t.vs[i] a).1 (timesM t.vs[i] a).2)
        rw [fillT_succ,← HOO.out]
        unfold scaleP Tb.putF
        rw [E1.out]
        exact this
    · have hltz:¬ (i:Int) < (t.vs.length:Int):=by omega
      have:i=t.vs.length:=by omega
      subst this
      go_wp2
      go_returns
      exact ⟨g1,k1,rfl,HO.out,Nat.le_of_lt HG.out,Nat.le_of_lt HH.out,HB.out⟩
end Go.Proofs.Ytaiefdhenikiiaa.Base
namespace Go.Proofs.Ytaiefdhenikiiaa.Base
open Go.RowKit Go.Proofs.YtaiefdhenikiiaaW.PrintWords Go.Proofs.YtaiefdhenikiiaaW.PrintLast Go.Proofs.YtaiefdhenikiiaaW.PrintMore
set_option linter.unusedVariables false
set_option linter.unusedSimpArgs false
theorem into9 {K:Act→World→Prop} {a:Act} {W:World} (F:Nat→Nat→World→Prop) (b9 b10:Nat) (h9:a.tmps.getD 9 undef=.pointer (some ⟨b9,0,none⟩)) (h10:a.tmps.getD 10 undef=.pointer (some ⟨b10,0,none⟩)) (hF:F b9 b10 W) (h:∀ w4,F b9 b10 w4→K a w4):K a W:=h W hF
theorem FrAt.put2 {w:World} {b:Nat} (h:w.heap[b]?=some (.cells #[.int .i64 0,.int .i64 0] 77 (0,0))) (a:S77):FrAt ((w.setCell ⟨b,0,none⟩ (.int .i64 a.f0)).setCell ⟨b,1,none⟩ (.int .i64 a.f1)) b a:=qt_ (qt_ h 0 _) 1 _
theorem drew_at {w:World} {b:Nat} {o:Obj} (h:w.heap[b]?=some o):w.drew.heap[b]?=some o:=h
theorem drewN_at {w:World} {b n:Nat} {o:Obj} (h:w.heap[b]?=some o):(w.drewN n).heap[b]?=some o:=h
/-- A row of texts that the call made,in blocks from B on. -/
def WordsAt (W:World) (B:Nat) (A:Option Addr) (c:Nat) (ws:List ByteArray):Prop:=Kd.R Kd.string 9 W B (fun _=>True) (.slice A ws.length c) ws
theorem WordsAt.of {W:World} {B:Nat} {v:Value} {ws:List ByteArray} (h:Kd.R Kd.string 9 W B (fun _=>True) v ws):∃ A c,v=.slice A ws.length c∧WordsAt W B A c ws:=by
  obtain ⟨A,c,rfl⟩:=Kd.qf2_ h
  exact ⟨A,c,rfl,h⟩
theorem WordsAt.mut {w w':World} {B c:Nat} {A:Option Addr} {ws:List ByteArray} {S:Nat→Prop} (h:WordsAt w B A c ws) (m:Mut w w' S) (hS:∀ k,S k→k < B):WordsAt w' B A c ws :=
  Kd.R_mono (Kd.R_step (Kd.R_bound h) (fun k hk hlt=>m.block k hlt (fun hs=>by have:=hS k hs;have:=hk.2.1;omega))) (fun _ _=>trivial)
theorem WordsAt.below {w w':World} {B c:Nat} {A:Option Addr} {ws:List ByteArray} (h:WordsAt w B A c ws) (hb:Below w.heap.size w w'):WordsAt w' B A c ws:=Kd.qm2_ h hb
theorem WordsAt.at {w:World} {B c:Nat} {A:Option Addr} {ws:List ByteArray} (h:WordsAt w B A c ws) (i:Nat) (hi:i < ws.length):∃ ad,A=some ad∧w.cell? (ad.add i)=some (.string ws[i]):=by
  obtain ⟨ad,e,hc⟩:=Kd.at_string (Kd.qg3_ h).2.2 (i:Int) (by omega) (by omega)
  refine ⟨ad,e,?_⟩
  simpa [rdOf,List.getD_eq_getElem?_getD,List.getElem?_eq_getElem hi] using hc
theorem allWords_ (w:World) (d n:Nat) (hs:Sz d n):Calls Try.prog 175 #[.int .i64 (d:Int),.int .i64 (n:Int)] w fun e w'=>∃ A c,e=.returned (.slice A (wordsD d n).length c)∧WordsAt w' w.heap.size A c (wordsA d n)∧Below w.heap.size w w':=by
  obtain ⟨k,hk⟩:=(allWords_are d n hs.d3 hs.n8).rounds
  refine (qn1_.calls k d n _ w hk).mono ?_
  rintro e w' ⟨v,rfl,hv,hb⟩
  obtain ⟨A,c,rfl,h⟩:=WordsAt.of hv
  exact ⟨A,c,by rw [wordsA_len],h,hb⟩
/-- One cut of a word. -/
def cutT (t u:Tb) (l:List Nat) (o:Tb) (i:Nat):Tb:=if (t.val (l.take i)).f0 ≠ 0∧(u.val (l.drop i)).f0 ≠ 0 then o.addT l (t.val (l.take i)) (u.val (l.drop i)) else o
def cutsT (t u:Tb) (l:List Nat) (o:Tb) (n:Nat):Tb:=(List.range n).foldl (cutT t u l) o
def wordT (t u:Tb) (o:Tb) (l:List Nat):Tb:=cutsT t u l o (l.length+1)
def wordsT (t u:Tb) (o:Tb) (ls:List (List Nat)):Tb:=ls.foldl (wordT t u) o
def timesT (t u:Tb):Tb:=wordsT t u (badT t.d t.n (t.bad || u.bad)) (wordsD t.d t.n)
theorem cutsT_succ (t u:Tb) (l:List Nat) (o:Tb) (n:Nat):cutsT t u l o (n+1)=cutT t u l (cutsT t u l o n) n:=by unfold cutsT;rw [List.range_succ,List.foldl_append];rfl
/-- Of the same sizes. -/
def Like (o p:Tb):Prop:=o.d=p.d∧o.n=p.n∧o.Ok
theorem Like.chk {o p:Tb} (h:Like o p) (b:Bool):Like (o.chk b) p:=⟨h.1,h.2.1,h.2.2.chk b⟩
theorem Like.addT {o p:Tb} (h:Like o p) (l:List Nat) (a b:S77):Like (o.addT l a b) p:=⟨h.1,h.2.1,h.2.2.addT l a b⟩
theorem Like.cutT {o p:Tb} (h:Like o p) (t u:Tb) (l:List Nat) (i:Nat):Like (cutT t u l o i) p:=by unfold Base.cutT;split;exact h.addT _ _ _;exact h
theorem Like.cutsT {o p:Tb} (h:Like o p) (t u:Tb) (l:List Nat) (n:Nat):Like (cutsT t u l o n) p:=by
  induction n with
  | zero=>exact h
  | succ n ih=>rw [cutsT_succ];exact ih.cutT t u l n
theorem Like.wordsT {o p:Tb} (h:Like o p) (t u:Tb) (ls:List (List Nat)):Like (wordsT t u o ls) p:=by
  induction ls generalizing o with
  | nil=>exact h
  | cons l ls ih=>exact ih (h.cutsT t u l _)
theorem timesT_like {t u:Tb} (h:t.Ok):Like (timesT t u) t:=Like.wordsT ⟨rfl,rfl,badZ_ok h.sz _⟩ t u _
set_option maxHeartbeats 32000000 in
set_option maxRecDepth 100000 in
theorem times' (w:World) (g h:Nat) (t:Tb) (H:TabAt w g h t) (ht:t.Ok) (g2 h2:Nat) (u:Tb) (H2:TabAt w g2 h2 u) (hu:Like u t) :
    Calls Try.prog 146 #[.pointer (some ⟨g,0,none⟩),.pointer (some ⟨g2,0,none⟩)] w (NewTab w (timesT t u)):=by
  have hF:=Try.underlying77
  have HT:=Aside0.mk H
  have HU:=Aside0.mk H2
  have OT:=Aside0.mk ht
  have OU:=Aside0.mk hu
  have hsm:(wordsD t.d t.n).length≤19683:=wordsD_small _ _ ht.sz.d3 ht.sz.n8
  have HSM:=Aside0.mk hsm
  clear H H2 ht hu hsm
  go_enter Try.func146,Try.ntmps146
  go_wp2_with (go_at_call 182;refine (like' _ g h t HT.out OT.out.sz).mono ?_;rintro e w1 ⟨g1,k1,rfl,T,hg,hh,hb⟩;have HO:=Aside0.mk T;have HG:=Aside0.mk hg;have HH:=Aside0.mk hh;have HB:=Aside0.mk hb;have HT1:=Aside0.mk (HT.out.below hb);have HU1:=Aside0.mk (HU.out.below hb);have a0:=HT1.out.c0;have a1:=HT1.out.c1;have a3:=HT1.out.c3;have b3:=HU1.out.c3;have o3:=T.c3;have of:=qd_ T.st 3;have n1:g1 ≠ g:=(by have:=HT.out.ltg;omega);clear T hg hh hb)
  all_goals
    generalize hW:World.setCell _ _ _=w2
    have O2:TabAt w2 g1 k1 (badT t.d t.n (t.bad || u.bad)):=by
      rw [← hW]
      have:=HO.out.setBad (t.bad || u.bad)
      simpa [badT,zeroT, *] using this
    have HO2:=Aside0.mk O2
    have HM2:=Aside0.mk (show Below w.heap.size w w2 by rw [← hW];exact HB.out.setCell HG.out _)
    have y0:=(HT.out.below HM2.out).c0
    have y1:=(HT.out.below HM2.out).c1
    clear O2 hW HO HB HT1 HU1 a0 a1 a3 b3 o3 of
    go_region_held3 (fun w'=>w'.cell? ⟨g,0,none⟩=some (.int .i64 (t.d:Int))∧w'.cell? ⟨g,1,none⟩=some (.int .i64 (t.n:Int))) (go_keep) (first|(go_at_call 175;refine (allWords_ _ t.d t.n OT.out.sz).mono ?_;rintro e w3 ⟨A,c,rfl,W,hb⟩;have z0:=qq_ hb y0;have z1:=qq_ hb y1;have HO3:=Aside0.mk (HO2.out.drew.below hb);have HM3:=Aside0.mk (show Below w.heap.size w w3 from qj_ (qc_ HM2.out) hb);have HW:=Aside0.mk W;have L1:=Aside0.mk (show g1 < w2.heap.size from HO2.out.ltg);have L2:=Aside0.mk (show k1 < w2.heap.size from HO2.out.lth);clear W hb))
    go_wp2
    have HWL:=Aside0.mk (wordsA_len t.d t.n)
    go_loopg [36] (wordsD t.d t.n).length (fun gg v36 wr=>∃ i:Nat,i≤(wordsD t.d t.n).length∧(wordsD t.d t.n).length - i≤gg∧v36=.int .i64 i∧Aside0 (TabAt wr g1 k1 (wordsT t u (badT t.d t.n (t.bad || u.bad)) ((wordsD t.d t.n).take i)))∧Aside0 (Below w.heap.size w wr)∧Aside0 (WordsAt wr w2.heap.size A c (wordsA t.d t.n)))
    case atStart=>exact ⟨0,Nat.zero_le _,by omega,rfl,HO3,HM3,HW⟩
    case round =>
      obtain ⟨i,hi,hg,rfl,HO,HB,HWr⟩:=hrel
      clear HO2 HM2 HO3 HM3 HW z0 z1 y0 y1
      by_cases hlt:i < (wordsD t.d t.n).length
      · have hltz:(i:Int) < ((wordsD t.d t.n).length:Int):=by omega
        obtain ⟨ad,rfl,hx⟩:=HWr.out.at i (by have:=HWL.out;omega)
        obtain ⟨l,hl⟩:∃ l,l=(wordsD t.d t.n)[i]:=⟨_,rfl⟩
        have hxl:(wordsA t.d t.n)[i]'(by have:=HWL.out;omega)=encW l:=by rw [hl];simp [wordsA]
        rw [hxl] at hx
        have hD:isD t.d t.n l:=by rw [hl];exact (wordsD_mem _ _ _).1 (List.getElem_mem hlt)
        have hsz:(encW l).size=l.length:=encW_size l
        have hll:l.length≤8:=by have:=hD.1;have:=OT.out.sz.n8;omega
        have HD:=Aside0.mk hD
        have HLL:=Aside0.mk hl
        clear hl hxl hD
        go_wp2
        go_loopg [43] (l.length+1) (fun gg v43 wr=>∃ j:Nat,j≤l.length+1∧l.length+1 - j≤gg∧v43=.int .i64 j∧Aside0 (TabAt wr g1 k1 (cutsT t u l (wordsT t u (badT t.d t.n (t.bad || u.bad)) ((wordsD t.d t.n).take i)) j))∧Aside0 (Below w.heap.size w wr)∧Aside0 (WordsAt wr w2.heap.size (some ad) c (wordsA t.d t.n)))
        case atStart=>exact ⟨0,Nat.zero_le _,by omega,rfl,HO,HB,HWr⟩
        case round =>
          clear HO HB HWr
          obtain ⟨j,hj,hgj,rfl,HO,HB,HWr⟩:=hrel
          by_cases hjl:j < l.length+1
          · have hjz:(j:Int) < (l.length:Int)+1:=by omega
            have hjz2:(j:Int)≤(l.length:Int):=by omega
            go_wp2
            have X1:=Aside0.mk (show (encW l).extract 0 j=encW (l.take j) by rw [extract_enc l 0 j (Nat.zero_le _),List.drop_zero])
            have X2:=Aside0.mk (show (encW l).extract j l.length=encW (l.drop j) by rw [extract_enc l j _ (by omega),List.take_length])
            have hlk:Like (cutsT t u l (wordsT t u (badT t.d t.n (t.bad || u.bad)) ((wordsD t.d t.n).take i)) j) t:=(Like.wordsT ⟨rfl,rfl,badZ_ok OT.out.sz _⟩ t u _).cutsT t u l j
            have HOK:=Aside0.mk hlk.2.2
            have HD2:=Aside0.mk (show isD (cutsT t u l (wordsT t u (badT t.d t.n (t.bad || u.bad)) ((wordsD t.d t.n).take i)) j).d (cutsT t u l (wordsT t u (badT t.d t.n (t.bad || u.bad)) ((wordsD t.d t.n).take i)) j).n l by rw [hlk.1,hlk.2.1];exact HD.out)
            clear hlk
            have HV:=Aside0.mk (show isD u.d u.n (l.drop j) by rw [OU.out.1,OU.out.2.1];exact isD_drop HD.out j)
            go_region_held3 (fun _=>True) (trivial) (first
              | (go_at_call_of 176 (Value.pointer (some ⟨g,0,none⟩));rw [X1.out];refine (atx' _ g h t ?hT OT.out (l.take j) (isD_take HD.out j)).mono ?_;(case hT=>(repeat (first|exact HT.out.below HB.out|refine TabAt.drewN ?_ _|refine TabAt.alloc ?_ _|refine TabAt.drew ?_)));rintro e w4 ⟨rfl,m,rfl⟩)
              | (go_at_call_of 176 (Value.pointer (some ⟨g2,0,none⟩));rw [X2.out];refine (atx' _ g2 h2 u ?hT OU.out.2.2 (l.drop j) HV.out).mono ?_;(case hT=>(repeat (first|exact HU.out.below HB.out|refine TabAt.drewN ?_ _|refine TabAt.alloc ?_ _|refine TabAt.drew ?_)));rintro e w4 ⟨rfl,m,rfl⟩))
            all_goals
              refine into9 (fun b9 b10 w'=>FrAt w' b9 (t.val (l.take j))∧FrAt w' b10 (u.val (l.drop j))∧Mut wr w' (fun _=>False)) _ _ rfl rfl ⟨?_,?_,?_⟩ ?_
              · (repeat' (first|((with_reducible refine FrAt.new' ?_ _);simp;done)|(with_reducible refine FrAt.put2 ?_ _)|(with_reducible refine FrAt.drewN ?_ _)|(with_reducible refine FrAt.drew ?_)|(with_reducible refine FrAt.alloc ?_ _)|((with_reducible refine FrAt.far ?_ ?_ _);rotate_left;(focus (first|(simp;done)|(simp;omega))))|(with_reducible refine drewN_at ?_)|(with_reducible refine drew_at ?_)|((with_reducible refine new_at ?_);simp;done)|(with_reducible refine old_at ?_)|((with_reducible refine qk1_ ?_ ?_ _);rotate_left;(focus (first|(simp;done)|(simp;omega))))))
              · (repeat' (first|((with_reducible refine FrAt.new' ?_ _);simp;done)|(with_reducible refine FrAt.put2 ?_ _)|(with_reducible refine FrAt.drewN ?_ _)|(with_reducible refine FrAt.drew ?_)|(with_reducible refine FrAt.alloc ?_ _)|((with_reducible refine FrAt.far ?_ ?_ _);rotate_left;(focus (first|(simp;done)|(simp;omega))))|(with_reducible refine drewN_at ?_)|(with_reducible refine drew_at ?_)|((with_reducible refine new_at ?_);simp;done)|(with_reducible refine old_at ?_)|((with_reducible refine qk1_ ?_ ?_ _);rotate_left;(focus (first|(simp;done)|(simp;omega))))))
              · exact (by repeat' (first|(with_reducible exact Mut.refl _ _)|(with_reducible refine Mut.set ?_ ?_ _)|(with_reducible refine Mut.alloc ?_ _)|(with_reducible refine Mut.drewN ?_ _)|(with_reducible refine Mut.drew ?_)|(intro hl;exfalso;simp at hl;done)|(intro hl;exfalso;simp at hl;omega)))
              rintro w4 ⟨F9,F10,M4⟩
              have f9:=F9.c0
              have f10:=F10.c0
              have f9':=F9.c1
              have f10':=F10.c1
              have HM4:=Aside0.mk M4
              clear F9 F10 M4
              by_cases ca:(t.val (l.take j)).f0=0
              · go_wp2
                go_roundg (l.length+1 - (j+1))
                case measure=>omega
                case rel =>
                  refine ⟨j+1,by omega,by omega,by first|rfl|(rw [w64 (by omega) (by omega)];rfl),?_⟩
                  rw [cutsT_succ]
                  unfold cutT
                  rw [if_neg (fun h=>h.1 ca)]
                  exact ⟨⟨HM4.out.tab HO.out (fun h=>h) (fun h=>h)⟩,⟨HM4.out.below HB.out HB.out.size (fun _ _ e=>e.elim)⟩,⟨HWr.out.mut HM4.out (fun _ e=>e.elim)⟩⟩
              · by_cases cb:(u.val (l.drop j)).f0=0
                · have ca2:((t.val (l.take j)).f0 != 0)=true:=by simpa using ca
                  go_wp2
                  go_roundg (l.length+1 - (j+1))
                  case measure=>omega
                  case rel =>
                    refine ⟨j+1,by omega,by omega,by first|rfl|(rw [w64 (by omega) (by omega)];rfl),?_⟩
                    rw [cutsT_succ]
                    unfold cutT
                    rw [if_neg (fun h=>h.2 cb)]
                    exact ⟨⟨HM4.out.tab HO.out (fun h=>h) (fun h=>h)⟩,⟨HM4.out.below HB.out HB.out.size (fun _ _ e=>e.elim)⟩,⟨HWr.out.mut HM4.out (fun _ e=>e.elim)⟩⟩
                · have ca2:((t.val (l.take j)).f0 != 0)=true:=by simpa using ca
                  have cb2:((u.val (l.drop j)).f0 != 0)=true:=by simpa using cb
                  go_wp2_with (go_at_call 200;refine (addTimes' _ g1 k1 _ (HM4.out.tab HO.out (fun h=>h) (fun h=>h)) HOK.out l HD2.out _ _ (OT.out.val _) (OU.out.2.2.val _)).mono ?_;rintro e w5 ⟨rfl,T5,m5⟩;have HT5:=Aside0.mk T5;have M5:=Aside0.mk (Mut.then_ (HM4.out.mono (T:=fun k=>k=g1 ∨ k=k1) (fun _ _ h=>h.elim)) m5 (fun _ _ h=>h));clear T5 m5)
                  go_roundg (l.length+1 - (j+1))
                  case measure=>omega
                  case rel =>
                    refine ⟨j+1,by omega,by omega,by first|rfl|(rw [w64 (by omega) (by omega)];rfl),?_⟩
                    rw [cutsT_succ]
                    unfold cutT
                    rw [if_pos ⟨ca,cb⟩]
                    exact ⟨HT5,⟨M5.out.below HB.out HB.out.size (fun i _ e=>by rcases e with rfl|rfl;exact HG.out;exact HH.out)⟩,⟨HWr.out.mut M5.out (fun i e=>by rcases e with rfl|rfl;exact L1.out;exact L2.out)⟩⟩
          · have hjz:¬ (j:Int) < (l.length:Int)+1:=by omega
            have:j=l.length+1:=by omega
            subst this
            go_wp2
            go_roundg ((wordsD t.d t.n).length - (i+1))
            case measure=>omega
            case rel =>
              refine ⟨i+1,by omega,by omega,by have:=HSM.out;rw [w64 (by omega) (by omega)];rfl,⟨?_⟩,HB,HWr⟩
              rw [List.take_succ_eq_append_getElem hlt,wordsT,List.foldl_append,← HLL.out]
              exact HO.out
      · have hltz:¬ (i:Int) < ((wordsD t.d t.n).length:Int):=by omega
        have:i=(wordsD t.d t.n).length:=by omega
        subst this
        go_wp2
        go_returns
        have:=HO.out
        rw [List.take_length] at this
        exact ⟨g1,k1,rfl,this,HG.out,HH.out,HB.out⟩
end Go.Proofs.Ytaiefdhenikiiaa.Base
namespace Go.Proofs.Ytaiefdhenikiiaa.Base
open Go.RowKit Go.Proofs.YtaiefdhenikiiaaW.PrintWords Go.Proofs.YtaiefdhenikiiaaW.PrintLast Go.Proofs.YtaiefdhenikiiaaW.PrintMore
set_option linter.unusedVariables false
set_option linter.unusedSimpArgs false
def negF:S77:=⟨-1,1⟩
theorem neg_okF:okF negF:=by decide
theorem Like.refl {t:Tb} (h:t.Ok):Like t t:=⟨rfl,rfl,h⟩
theorem Like.trans {a b c:Tb} (h:Like a b) (k:Like b c):Like a c:=⟨h.1.trans k.1,h.2.1.trans k.2.1,h.2.2⟩
theorem Like.len {a b:Tb} (h:Like a b) (hb:b.Ok):a.vs.length=b.vs.length:=by rw [h.2.2.len,hb.len,h.1,h.2.1]
theorem Like.sz {a b:Tb} (h:Like a b):Sz b.d b.n:=by have:=h.2.2.sz;rwa [h.1,h.2.1] at this
theorem sumT_like {t u p:Tb} (h:Like t p):Like (sumT t u) p:=⟨(sumT_dn t u).1.trans h.1,(sumT_dn t u).2.trans h.2.1,sumT_ok h.2.2⟩
theorem scaleT_like {t p:Tb} (a:S77) (h:Like t p):Like (scaleT t a) p:=⟨(scaleT_dn t a).1.trans h.1,(scaleT_dn t a).2.trans h.2.1,scaleT_ok a h.2.2⟩
theorem timesT_like' {t u p:Tb} (h:Like t p):Like (timesT t u) p:=(timesT_like h.2.2).trans h
/-- A table that is there,of the sizes of p. -/
structure HasT (W:World) (g h:Nat) (t p:Tb):Prop where
  tab:TabAt W g h t
  like:Like t p
theorem HasT.below {W W':World} {g h:Nat} {t p:Tb} (H:HasT W g h t p) (hb:Below W.heap.size W W'):HasT W' g h t p:=⟨H.tab.below hb,H.like⟩
/-- A table that a call has made,of the sizes of p. -/
def NewT (w:World) (t p:Tb) (e:Ending) (w':World):Prop:=∃ g h,e=.returned (.pointer (some ⟨g,0,none⟩))∧HasT w' g h t p∧w.heap.size≤g∧w.heap.size≤h∧Below w.heap.size w w'
theorem sumL (w:World) {g h:Nat} {t p:Tb} (H:HasT w g h t p) {g2 h2:Nat} {u:Tb} (H2:HasT w g2 h2 u p) (hp:p.Ok) :
    Calls Try.prog 129 #[.pointer (some ⟨g,0,none⟩),.pointer (some ⟨g2,0,none⟩)] w (NewT w (sumT t u) p):=by
  refine (sum' w g h t H.tab H.like.2.2 g2 h2 u H2.tab H2.like.2.2 (by rw [H.like.len hp,H2.like.len hp])).mono ?_
  rintro e w' ⟨g',h',rfl,T,hg,hh,hb⟩
  exact ⟨g',h',rfl,⟨T,sumT_like H.like⟩,hg,hh,hb⟩
theorem scaledL (w:World) {g h:Nat} {t p:Tb} (H:HasT w g h t p) (a:S77) (ha:okF a) :
    Calls Try.prog 130 #[.pointer (some ⟨g,0,none⟩),.agg #[.int .i64 a.f0,.int .i64 a.f1]] w (NewT w (scaleT t a) p):=by
  refine (scaled' w g h t H.tab H.like.2.2 a ha).mono ?_
  rintro e w' ⟨g',h',rfl,T,hg,hh,hb⟩
  exact ⟨g',h',rfl,⟨T,scaleT_like a H.like⟩,hg,hh,hb⟩
theorem timesL (w:World) {g h:Nat} {t p:Tb} (H:HasT w g h t p) {g2 h2:Nat} {u:Tb} (H2:HasT w g2 h2 u p) (hp:p.Ok) :
    Calls Try.prog 146 #[.pointer (some ⟨g,0,none⟩),.pointer (some ⟨g2,0,none⟩)] w (NewT w (timesT t u) p):=by
  refine (times' w g h t H.tab H.like.2.2 g2 h2 u H2.tab ⟨H2.like.1.trans H.like.1.symm,H2.like.2.1.trans H.like.2.1.symm,H2.like.2.2⟩).mono ?_
  rintro e w' ⟨g',h',rfl,T,hg,hh,hb⟩
  exact ⟨g',h',rfl,⟨T,timesT_like' H.like⟩,hg,hh,hb⟩
def commT (t u:Tb):Tb:=sumT (timesT t u) (scaleT (timesT u t) negF)
theorem commT_like {t u p:Tb} (h:Like t p):Like (commT t u) p:=sumT_like (timesT_like' h)
set_option maxHeartbeats 8000000 in
set_option maxRecDepth 100000 in
theorem commutator' (w:World) {g h:Nat} {t p:Tb} (H:HasT w g h t p) {g2 h2:Nat} {u:Tb} (H2:HasT w g2 h2 u p) (hp:p.Ok) :
    Calls Try.prog 113 #[.pointer (some ⟨g,0,none⟩),.pointer (some ⟨g2,0,none⟩)] w (NewT w (commT t u) p):=by
  have HT:=Aside0.mk H
  have HU:=Aside0.mk H2
  have OP:=Aside0.mk hp
  obtain ⟨flag,hflag⟩:∃ b:Nat,b=0:=⟨0,rfl⟩
  clear H H2 hp
  go_enter Try.func113,Try.ntmps113
  go_wp2_with (first
    | (go_at_call 146;clear hflag;refine (timesL _ HT.out HU.out OP.out).mono ?_;rintro e w1 ⟨g1,k1,rfl,T,hg,hh,hb⟩;have HO:=Aside0.mk T;have HB:=Aside0.mk hb;clear T hg hh hb)
    | (go_at_call 146;refine (timesL _ (HU.out.below HB.out) (HT.out.below HB.out) OP.out).mono ?_;rintro e w2 ⟨g3,k3,rfl,T,hg,hh,hb⟩;have HV:=Aside0.mk T;have HO2:=Aside0.mk (HO.out.below hb);have HB2:=Aside0.mk (show Below w.heap.size w w2 from qj_ HB.out hb);clear T hg hh hb)
    | (go_at_call 165;refine (impl_whole.calls (-1) (-1) 1 _ rfl).mono ?_;rintro e w3 ⟨rfl,hb⟩;have HO3:=Aside0.mk (HO2.out.below hb);have HV3:=Aside0.mk (HV.out.below hb);have HB3:=Aside0.mk (show Below w.heap.size w w3 from qj_ HB2.out hb);clear hb)
    | (go_at_call 130;refine (scaledL _ HV3.out negF neg_okF).mono ?_;rintro e w4 ⟨g4,k4,rfl,T,hg,hh,hb⟩;have HV4:=Aside0.mk T;have HO4:=Aside0.mk (HO3.out.below hb);have HB4:=Aside0.mk (show Below w.heap.size w w4 from qj_ HB3.out hb);clear T hg hh hb)
    | (go_at_call 129;refine (sumL _ HO4.out HV4.out OP.out).mono ?_;rintro e w5 ⟨g5,k5,rfl,T,hg,hh,hb⟩;have HO5:=Aside0.mk T;have HG5:=Aside0.mk (Nat.le_trans HB4.out.size hg);have HH5:=Aside0.mk (Nat.le_trans HB4.out.size hh);have HB5:=Aside0.mk (show Below w.heap.size w w5 from qj_ HB4.out hb);clear T hg hh hb))
  go_returns
  exact ⟨g5,k5,rfl,HO5.out,HG5.out,HH5.out,HB5.out⟩
end Go.Proofs.Ytaiefdhenikiiaa.Base
