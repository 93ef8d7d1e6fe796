/- Texts that the proof of FnExactLieCoordinates needs, part 10. No condition. -/
import Derived.Test.YtaiefdhenikiiaaMFnExactLieCoordinates9
import Derived.Deep.RegionLaw
namespace Go.Proofs.Ytaiefdhenikiiaa.Base
open Go.RowKit Go.Proofs.YtaiefdhenikiiaaW.PrintWords Go.Proofs.YtaiefdhenikiiaaW.PrintLast Go.Proofs.YtaiefdhenikiiaaW.PrintMore
set_option linter.unusedVariables false
set_option linter.unusedSimpArgs false
/-- A series that is a variable in block b. -/
def SrAt (W:World) (b:Nat) (d n:Int) (v:Value):Prop:=W.heap[b]?=some (.cells #[.int .i64 d,.int .i64 n,v] 38 (0,0))
section
variable {W W' w w':World} {b:Nat} {d n:Int} {v:Value}
theorem SrAt.c0 (H:SrAt W b d n v):W.cell? ⟨b,0,none⟩=some (.int .i64 d):=qg_ H 0
theorem SrAt.c1 (H:SrAt W b d n v):W.cell? ⟨b,1,none⟩=some (.int .i64 n):=qg_ H 1
theorem SrAt.c2 (H:SrAt W b d n v):W.cell? ⟨b,2,none⟩=some v:=qg_ H 2
theorem SrAt.lt (H:SrAt W b d n v):b < W.heap.size:=blk_lt H
theorem SrAt.below (H:SrAt W b d n v) (hb:Below W.heap.size W W'):SrAt W' b d n v:=qm_ H hb
theorem SrAt.alloc (H:SrAt W b d n v) (o:Obj):SrAt (W.alloc o) b d n v:=old_at H
theorem SrAt.drew (H:SrAt W b d n v):SrAt W.drew b d n v:=H
theorem SrAt.drewN (H:SrAt W b d n v) (m:Nat):SrAt (W.drewN m) b d n v:=H
theorem SrAt.far (H:SrAt W b d n v) {p:Addr} (h:b ≠ p.block) (u:Value):SrAt (W.setCell p u) b d n v:=qr1_ H h u
theorem SrAt.put (H:SrAt W b d n v) (u:Value):SrAt (W.setCell ⟨b,2,none⟩ u) b d n u:=qh1_ H 2 u
theorem SrAt.grown (H:SrAt W b d n v) {row:Option Nat} (hg:W.grownBy W' row) (hne:some b ≠ row):SrAt W' b d n v:=qc3_ H hg hne
end
/-- One term more. -/
def termStep (t:Tb) (acc:List S79) (i:Nat):List S79:=if (t.vs.getD i zeroF).f0 ≠ 0 then acc ++ [⟨(wordsA t.d t.n).getD i ByteArray.empty,t.vs.getD i zeroF⟩] else acc
def termsN (t:Tb) (n:Nat):List S79:=(List.range n).foldl (termStep t) []
def termsT (t:Tb):List S79:=termsN t (wordsD t.d t.n).length
theorem termsN_succ (t:Tb) (n:Nat):termsN t (n+1)=termStep t (termsN t n) n:=by unfold termsN;rw [List.range_succ,List.foldl_append];rfl
theorem termsN_len (t:Tb) (n:Nat):(termsN t n).length≤n:=by
  induction n with
  | zero=>exact Nat.le_refl _
  | succ n ih =>
    rw [termsN_succ]
    unfold termStep
    split
    · rw [List.length_append,List.length_singleton];omega
    · omega
/-- A row of terms that the call made. -/
abbrev TermsR (W:World) (base:Nat) (v:Value) (l:List S79):Prop:=Kd.R k79 79 W base (fun _=>True) v l
theorem WordsAt.grown {w w':World} {B c:Nat} {A:Option Addr} {ws:List ByteArray} (h:WordsAt w B A c ws) {base:Nat} {v:Value} {l:List S79} (hr:TermsR w base v l) (hg:w.grownBy w' v.ownBlock):WordsAt w' B A c ws :=
  Kd.R_over' h (Kd.R_typed hr) (by decide) hg
theorem info79':(Try.prog.info? 79).map (fun i=>(i.zero,i.size,i.bytes))=some (some (.agg #[(.string ⟨#[]⟩),(.int .i64 0),(.int .i64 0)]),3,32):=by kernel_rfl
end Go.Proofs.Ytaiefdhenikiiaa.Base
namespace Go.Proofs.Ytaiefdhenikiiaa.Base
open Go.RowKit Go.Proofs.YtaiefdhenikiiaaW.PrintWords Go.Proofs.YtaiefdhenikiiaaW.PrintLast Go.Proofs.YtaiefdhenikiiaaW.PrintMore
set_option linter.unusedVariables false
set_option linter.unusedSimpArgs false
/-- The digits of a text. -/
def decW (s:ByteArray):List Nat:=s.data.toList.map fun b=>b.toNat - 48
theorem decW_encW (l:List Nat) (h:∀ x ∈ l,x < 100):decW (encW l)=l:=by
  unfold decW encW
  rw [List.map_map]
  conv=>rhs;rw [← List.map_id l]
  apply List.map_congr_left
  intro x hx
  have:=h x hx
  simp only [Function.comp,UInt8.toNat_ofNat',id_eq]
  omega
/-- Is the text a word of a table? -/
def isWd (d n:Nat) (s:ByteArray):Prop:=encW (decW s)=s∧isD d n (decW s)
/-- Terms of a series. -/
def okTs (d n:Nat) (l:List S79):Prop:=∀ x ∈ l,isWd d n x.f0∧okF x.f1
def openStep (o:Tb) (x:S79):Tb:=o.put (numN o.d (decW x.f0)) x.f1
def openN (d n:Nat) (l:List S79):Tb:=l.foldl openStep (zeroT d n)
theorem openN_like {d n:Nat} (hs:Sz d n) (l:List S79) (h:okTs d n l):Like (openN d n l) (zeroT d n):=by
  have key:∀ (l:List S79) (o:Tb),Like o (zeroT d n)→okTs d n l→Like (l.foldl openStep o) (zeroT d n):=by
    intro l
    induction l with
    | nil=>intro o ho _;exact ho
    | cons x l ih=>intro o ho hl;exact ih _ ⟨ho.1,ho.2.1,ho.2.2.put _ (hl x List.mem_cons_self).2⟩ (fun y hy=>hl y (List.mem_cons_of_mem _ hy))
  exact key l _ ⟨rfl,rfl,zeroT_ok hs⟩ h
/-- A term that is a variable in block b. -/
def TmAt (W:World) (b:Nat) (x:S79):Prop:=W.heap[b]?=some (.cells #[.string x.f0,.int .i64 x.f1.f0,.int .i64 x.f1.f1] 79 (0,0))
section
variable {W W':World} {b:Nat} {x:S79}
theorem TmAt.c0 (H:TmAt W b x):W.cell? ⟨b,0,none⟩=some (.string x.f0):=qg_ H 0
theorem TmAt.c1 (H:TmAt W b x):W.cell? ⟨b,1,none⟩=some (.int .i64 x.f1.f0):=qg_ H 1
theorem TmAt.c2 (H:TmAt W b x):W.cell? ⟨b,2,none⟩=some (.int .i64 x.f1.f1):=qg_ H 2
end
set_option maxHeartbeats 16000000 in
set_option maxRecDepth 100000 in
theorem open_ (w:World) (d n:Nat) (A:Option Addr) (c:Nat) (l:List S79) (hr:Kd.C k79 w A l.length l) (hc:l.length≤c) (hs:Sz d n) (hl:okTs d n l) (hll:l.length≤1000000000) :
    Calls Try.prog 112 #[.agg #[.int .i64 (d:Int),.int .i64 (n:Int),.slice A l.length c]] w (NewT w (openN d n l) (zeroT d n)):=by
  have hu:=Try.underlying38
  have hu2:=Try.underlying79
  have hu3:=Try.underlying77
  have HR:=Aside0.mk hr
  have HL:=Aside0.mk hl
  have HS:=Aside0.mk hs
  clear hr hl hs
  go_enter Try.func112,Try.ntmps112
  go_wp2_with (go_at_call 126;refine (newTable_ _ d n HS.out).mono ?_;rintro e w1 ⟨g1,k1,rfl,T,hg,hh,hb⟩;have HO:=Aside0.mk T;have HG:=Aside0.mk (show w.heap.size < g1 by have:=hg;simp at this;omega);have HH:=Aside0.mk (show w.heap.size < k1 by have:=hh;simp at this;omega);have HB:=Aside0.mk (show Below w.heap.size w w1 from qh_ (qb_ (Below.refl _ _) _) hb);have S:=qm_ (new_at (W:=w) (cs:=#[.int .i64 (d:Int),.int .i64 (n:Int),.slice A l.length c]) (e:=38) rfl) hb;have x2:w1.cell? ⟨w.heap.size,2,none⟩=some (.slice A l.length c):=qg_ S 2;clear T hg hh hb S)
  go_loopg [14] l.length (fun gg v14 wr=>∃ i:Nat,i≤l.length∧l.length - i≤gg∧v14=.int .i64 i∧Aside0 (TabAt wr g1 k1 (openN d n (l.take i)))∧Aside0 (Below w.heap.size w wr))
  case atStart=>exact ⟨0,Nat.zero_le _,by omega,rfl,HO,HB⟩
  case round =>
    clear HO HB x2
    obtain ⟨i,hi,hg,rfl,HO,HB⟩:=hrel
    by_cases hlt:i < l.length
    · have hltz:(i:Int) < (l.length:Int):=by omega
      obtain ⟨ad,rfl,x0,x1,x2⟩:=at_T79 (Kd.qv1_ HR.out HB.out) (i:Int) (by omega) (by omega)
      have e1:rd_T79 l (i:Int)=l[i]:=by simp [rd_T79,List.getD_eq_getElem?_getD,List.getElem?_eq_getElem hlt]
      obtain ⟨x,hx⟩:∃ x,x=l[i]:=⟨_,rfl⟩
      rw [e1,← hx,Int.toNat_natCast] at x0 x1 x2
      obtain ⟨hw,hf⟩:=HL.out l[i] (List.getElem_mem hlt)
      rw [← hx] at hw hf
      have HW:=Aside0.mk hw
      have HF:=Aside0.mk hf
      have HX:=Aside0.mk hx
      have hlk:=openN_like HS.out (l.take i) (fun y hy=>HL.out y (List.mem_of_mem_take hy))
      obtain ⟨O,hO⟩:∃ O,O=openN d n (l.take i):=⟨_,rfl⟩
      rw [← hO] at hlk HO
      have hd:O.d=d:=hlk.1
      have hn:O.n=n:=hlk.2.1
      have HLK:=Aside0.mk hlk
      have HOO:=Aside0.mk hO
      have hkk:numN O.d (decW x.f0) < O.vs.length:=HLK.out.2.2.lt (by rw [hd,hn];exact HW.out.2)
      obtain ⟨k,hk⟩:=(number_is O.d (by rw [hd];exact HS.out.d3) (decW x.f0) (by rw [hd];exact HW.out.2.2) (HLK.out.2.2.le20 (by rw [hd,hn];exact HW.out.2))).rounds
      rw [HW.out.1] at hk
      have HK:=Aside0.mk hk
      obtain ⟨kk,hkke⟩:∃ kk,kk=numN O.d (decW x.f0):=⟨_,rfl⟩
      rw [← hkke] at HK hkk
      have HKK:=Aside0.mk hkke
      have hkz:(kk:Int) < (O.vs.length:Int):=by omega
      have o0:=HO.out.c0
      have o2:=HO.out.c2
      have lo1:=HO.out.ltg
      have lo2:=HO.out.lth
      have m1:k1 ≠ g1:=HO.out.ne.symm
      have m2:k1 ≠ wr.heap.size:=by omega
      have q3:wr.heap.size ≠ g1:=by omega
      clear hw hf hx e1 hO hlk hk hkke hd hn
      go_wp2
      go_region_held3 (fun w'=>w'.cell? ⟨g1,2,none⟩=some (.slice (some ⟨k1,0,none⟩) O.vs.length O.vs.length)∧w'.cell? ⟨g1,0,none⟩=some (.int .i64 (O.d:Int))∧w'.cell? ⟨wr.heap.size,0,none⟩=some (.string x.f0)∧w'.cell? ⟨wr.heap.size,1,none⟩=some (.int .i64 x.f1.f0)∧w'.cell? ⟨wr.heap.size,2,none⟩=some (.int .i64 x.f1.f1)) (go_keep) (first
        | (go_at_call 166;refine (qu1_.calls k _ _ _ _ HK.out).mono ?_;rintro e w2 ⟨rfl,hd⟩;have hb:=hd.below;have O2:TabAt w2 g1 k1 O:=TabAt.below (by repeat (first|(with_reducible exact HO.out)|(with_reducible refine TabAt.drew ?_)|(with_reducible refine TabAt.alloc ?_ _))) hb;have X2:TmAt w2 wr.heap.size x:=qm_ (by repeat' (first|(with_reducible refine drew_at ?_)|((with_reducible refine new_at ?_);simp;done))) hb;have HB2:=Aside0.mk (show Below w.heap.size w w2 from qh_ (by repeat (first|(with_reducible exact HB.out)|(with_reducible refine qc_ ?_)|(with_reducible refine qb_ ?_ _))) hb);have c1:=O2.c2;have c2:=O2.c0;have c3:=X2.c0;have c4:=X2.c1;have c5:=X2.c2;have c6:=O2.v0 kk hkk;have c7:=O2.v1 kk hkk;have c8:=qd_ O2.vl (kk * 2);have c9:=qd_ O2.vl (kk * 2+1);have HO2:=Aside0.mk O2;clear O2 X2 hb hd))
      go_wp2
      go_roundg (l.length - (i+1))
      case measure=>omega
      case rel =>
        refine ⟨i+1,by omega,by omega,by first|rfl|(rw [w64 (by omega) (by omega)];rfl),⟨?_⟩,⟨(HB2.out.setCell (Nat.le_of_lt HH.out) _).setCell (Nat.le_of_lt HH.out) _⟩⟩
        have hh:=HO2.out.put kk hkk x.f1
        rw [List.take_succ_eq_append_getElem hlt,openN,List.foldl_append,← HX.out]
        show TabAt _ g1 k1 (openStep (openN d n (l.take i)) x)
        rw [← HOO.out]
        unfold openStep
        rw [← HKK.out]
        exact hh
    · have hltz:¬ (i:Int) < (l.length:Int):=by omega
      obtain rfl:i=l.length:=by omega
      go_wp2
      go_returns
      have hh:=HO.out
      rw [List.take_length] at hh
      exact ⟨g1,k1,rfl,⟨hh,openN_like HS.out l HL.out⟩,Nat.le_of_lt HG.out,Nat.le_of_lt HH.out,HB.out⟩
end Go.Proofs.Ytaiefdhenikiiaa.Base
namespace Go.Proofs.Ytaiefdhenikiiaa.Base
open Go.RowKit Go.Proofs.YtaiefdhenikiiaaW.PrintWords Go.Proofs.YtaiefdhenikiiaaW.PrintLast Go.Proofs.YtaiefdhenikiiaaW.PrintMore
set_option linter.unusedVariables false
set_option linter.unusedSimpArgs false
theorem newTableL (w:World) (d n:Nat) (hs:Sz d n):Calls Try.prog 126 #[.int .i64 (d:Int),.int .i64 (n:Int)] w (NewT w (zeroT d n) (zeroT d n)):=by
  refine (newTable_ w d n hs).mono ?_
  rintro e w' ⟨g',h',rfl,T,hg,hh,hb⟩
  exact ⟨g',h',rfl,⟨T,⟨rfl,rfl,zeroT_ok hs⟩⟩,hg,hh,hb⟩
end Go.Proofs.Ytaiefdhenikiiaa.Base
namespace Go.Proofs.Ytaiefdhenikiiaa.Base
open Go.RowKit Go.Proofs.YtaiefdhenikiiaaW.PrintWords Go.Proofs.YtaiefdhenikiiaaW.PrintLast Go.Proofs.YtaiefdhenikiiaaW.PrintMore
set_option linter.unusedVariables false
set_option linter.unusedSimpArgs false
def letterT (d n:Nat) (l:List Nat):Tb:=(zeroT d n).put (numN d l) oneF
/-- The bracket,of a word of at most m+1 letters. -/
def bracketN (d n:Nat):Nat→List Nat→Tb
  | 0,l=>letterT d n l
  | m+1,l=>if l.length=1 then letterT d n l else commT (bracketN d n m (l.take (cutI l))) (bracketN d n m (l.drop (cutI l)))
def bracketT (d n:Nat) (l:List Nat):Tb:=bracketN d n 8 l
theorem letterT_like {d n:Nat} (hs:Sz d n) (l:List Nat):Like (letterT d n l) (zeroT d n):=⟨rfl,rfl,(zeroT_ok hs).put _ one_okF⟩
theorem bracketN_like {d n:Nat} (hs:Sz d n):∀ (m:Nat) (l:List Nat),Like (bracketN d n m l) (zeroT d n)
  | 0,l=>letterT_like hs l
  | m+1,l=>by
    unfold bracketN
    split
    · exact letterT_like hs l
    · exact commT_like (bracketN_like hs m _)
theorem isD_100 {d n:Nat} {l:List Nat} (h:isD d n l) (hd:d≤3):∀ x ∈ l,x < 100:=fun x hx=>by have:=h.2 x hx;omega
set_option maxHeartbeats 16000000 in
set_option maxRecDepth 100000 in
theorem bracket_one (w:World) (d n:Nat) (l:List Nat) (hs:Sz d n) (hl:isD d n l) (h1:l.length=1):Calls Try.prog 100 #[.int .i64 (d:Int),.int .i64 (n:Int),.string (encW l)] w (NewT w (letterT d n l) (zeroT d n)):=by
  have hu3:=Try.underlying77
  have HS:=Aside0.mk hs
  have hsz:(encW l).size=1:=by rw [encW_size,h1]
  obtain ⟨k,hk⟩:=(number_is d hs.d3 l hl.2 (by omega)).rounds
  have hkk:numN d l < (zeroT d n).vs.length:=by rw [(zeroT_ok hs).len];exact numN_lt d n l hl
  obtain ⟨kk,hke⟩:∃ kk,kk=numN d l:=⟨_,rfl⟩
  rw [← hke] at hk hkk
  have HK:=Aside0.mk hk
  have HKE:=Aside0.mk hke
  have hkz:(kk:Int) < ((zeroT d n).vs.length:Int):=by omega
  have hk0:(0:Int)≤(kk:Int):=by omega
  clear hs hl h1 hk hke
  go_enter Try.func100,Try.ntmps100
  go_wp2_with (go_at_call 126;refine (newTableL _ d n HS.out).mono ?_;rintro e w1 ⟨g1,k1,rfl,T,hg,hh,hb⟩;have HO:=Aside0.mk T.tab;have HG:=Aside0.mk hg;have HH:=Aside0.mk hh;have HB:=Aside0.mk hb;have o2:=T.tab.c2;have m1:k1 ≠ g1:=T.tab.ne.symm;clear T hg hh hb)
  go_region_held3 (fun w'=>w'.cell? ⟨g1,2,none⟩=some (.slice (some ⟨k1,0,none⟩) (zeroT d n).vs.length (zeroT d n).vs.length)) (go_keep) (first
    | (go_at_call 166;refine (qu1_.calls k _ _ _ _ HK.out).mono ?_;rintro e w2 ⟨rfl,⟨nd,rfl⟩⟩)
    | (go_at_call 165;refine (impl_whole.calls 1 1 1 _ rfl).mono ?_;rintro e w2 ⟨rfl,hb⟩;have O2:TabAt w2 g1 k1 (zeroT d n):=TabAt.below (by repeat (first|(with_reducible exact HO.out)|(with_reducible refine TabAt.drew ?_)|(with_reducible refine TabAt.drewN ?_ _)|(with_reducible refine TabAt.alloc ?_ _))) hb;have HB2:=Aside0.mk (show Below w.heap.size w w2 from qh_ (by repeat (first|(with_reducible exact HB.out)|(with_reducible refine qc_ ?_)|(with_reducible refine qa_ ?_ _)|(with_reducible refine qb_ ?_ _))) hb);have c1:=O2.c2;have c6:=O2.v0 kk hkk;have c7:=O2.v1 kk hkk;have c8:=qd_ O2.vl (kk * 2);have c9:=qd_ O2.vl (kk * 2+1);have HO2:=Aside0.mk O2;clear O2 hb))
  go_wp2
  go_returns
  refine ⟨g1,k1,rfl,⟨?_,letterT_like HS.out l⟩,HG.out,HH.out,(HB2.out.setCell HH.out _).setCell HH.out _⟩
  have:=HO2.out.put kk hkk oneF
  rw [HKE.out] at this
  unfold letterT
  rw [HKE.out]
  exact this
set_option maxHeartbeats 16000000 in
set_option maxRecDepth 100000 in
theorem bracket_ (d n:Nat) (hs:Sz d n) (m:Nat):∀ (l:List Nat) (w:World),isD d n l→1≤l.length→l.length≤m+1→Calls Try.prog 100 #[.int .i64 (d:Int),.int .i64 (n:Int),.string (encW l)] w (NewT w (bracketN d n m l) (zeroT d n)):=by
  induction m with
  | zero=>intro l w hl h1 h2;exact bracket_one w d n l hs hl (by omega)
  | succ m ih =>
    intro l w hl h1 h2
    by_cases c1:l.length=1
    · unfold bracketN;rw [if_pos c1];exact bracket_one w d n l hs hl c1
    · unfold bracketN;rw [if_neg c1]
      obtain ⟨k,hk⟩:=(cut_is l (isD_100 hl hs.d3) (by have:=hl.1;have:=hs.n8;omega) (by omega)).rounds
      have hc:=cutI_lt (l:=l) (by omega)
      have IH1:=Aside0.mk (fun W=>ih (l.take (cutI l)) W (isD_take hl _) (by rw [List.length_take];omega) (by rw [List.length_take];omega))
      have IH2:=Aside0.mk (fun W=>ih (l.drop (cutI l)) W (isD_drop hl _) (by rw [List.length_drop];omega) (by rw [List.length_drop];omega))
      have HK:=Aside0.mk hk
      have HZ:=Aside0.mk (zeroT_ok hs)
      have hsz:(encW l).size=l.length:=encW_size l
      have hz1:¬ ((l.length:Int)=1):=by omega
      have hzs:¬ (((encW l).size:Int)=1):=by rw [hsz];omega
      obtain ⟨u,hu⟩:∃ u,u=encW (l.take (cutI l)):=⟨_,rfl⟩
      obtain ⟨v,hv⟩:∃ v,v=encW (l.drop (cutI l)):=⟨_,rfl⟩
      rw [← hu] at IH1 HK
      rw [← hv] at IH2 HK
      clear ih hk hc hl hu hv
      obtain ⟨flag,hflag⟩:∃ b:Nat,b=0:=⟨0,rfl⟩
      go_enter Try.func100,Try.ntmps100
      go_wp2_with (first
        | (go_at_call 167;refine (qf2_.calls k _ _ _ _ HK.out).mono ?_;rintro e w1 ⟨rfl,⟨nd,rfl⟩⟩)
        | (go_at_call 100;clear hflag;refine (IH1.out _).mono ?_;rintro e w2 ⟨g2,k2,rfl,T,hg,hh,hb⟩;have HT:=Aside0.mk T;have HB:=Aside0.mk (show Below w.heap.size w w2 from qh_ (qa_ (Below.refl _ _) _) hb);clear T hg hh hb)
        | (go_at_call 100;refine (IH2.out _).mono ?_;rintro e w3 ⟨g3,k3,rfl,T,hg,hh,hb⟩;have HU:=Aside0.mk T;have HT3:=Aside0.mk (HT.out.below hb);have HB3:=Aside0.mk (show Below w.heap.size w w3 from qh_ HB.out hb);clear T hg hh hb)
        | (go_at_call 113;refine (commutator' _ HT3.out HU.out HZ.out).mono ?_;rintro e w4 ⟨g4,k4,rfl,T,hg,hh,hb⟩;have HT4:=Aside0.mk T;have HG4:=Aside0.mk (Nat.le_trans HB3.out.size hg);have HH4:=Aside0.mk (Nat.le_trans HB3.out.size hh);have HB4:=Aside0.mk (show Below w.heap.size w w4 from qh_ HB3.out hb);clear T hg hh hb))
      go_returns
      exact ⟨g4,k4,rfl,HT4.out,HG4.out,HH4.out,HB4.out⟩
theorem bracket' (w:World) (d n:Nat) (l:List Nat) (hs:Sz d n) (hl:isD d n l) (h1:1≤l.length):Calls Try.prog 100 #[.int .i64 (d:Int),.int .i64 (n:Int),.string (encW l)] w (NewT w (bracketT d n l) (zeroT d n)) :=
  bracket_ d n hs 8 l w hl h1 (by have:=hl.1;have:=hs.n8;omega)
theorem bracketT_like {d n:Nat} (hs:Sz d n) (l:List Nat):Like (bracketT d n l) (zeroT d n):=bracketN_like hs 8 l
end Go.Proofs.Ytaiefdhenikiiaa.Base
namespace Go.Proofs.Ytaiefdhenikiiaa.Base
open Go.RowKit Go.Proofs.YtaiefdhenikiiaaW.PrintWords Go.Proofs.YtaiefdhenikiiaaW.PrintLast Go.Proofs.YtaiefdhenikiiaaW.PrintMore
set_option linter.unusedVariables false
set_option linter.unusedSimpArgs false
def minusT (d n:Nat) (t:Tb) (l:List Nat) (a:S77):Tb:=sumT t (scaleT (scaleT (bracketT d n l) a) negF)
/-- The program's loop: the coordinates,and a code. -/
def coLoop (d n:Nat):List (List Nat)→Tb→List S79→List S79 × Nat
  | [],_,acc=>(acc,0)
  | l :: ls,t,acc =>
    if (t.val l).f0=0 then coLoop d n ls t acc
    else if lynN l=true then
      if (minusT d n t l (t.val l)).bad=true then ([],3)
      else coLoop d n ls (minusT d n t l (t.val l)) (acc ++ [⟨encW l,t.val l⟩])
    else ([],5)
def coordsOf (d n:Nat) (t:Tb):List S79 × Nat:=coLoop d n (wordsD d n) t []
theorem lynN_pos {l:List Nat} (h:lynN l=true):1≤l.length:=by
  cases l with
  | nil=>simp [lynN] at h
  | cons a l=>simp
theorem atL (w:World) {g h:Nat} {t p:Tb} (H:HasT w g h t p) (l:List Nat) (hl:isD p.d p.n l) :
    Calls Try.prog 176 #[.pointer (some ⟨g,0,none⟩),.string (encW l)] w fun e w'=>e=.returned (.agg #[.int .i64 (t.val l).f0,.int .i64 (t.val l).f1])∧Below w.heap.size w w' :=
  at' w g h t H.tab H.like.2.2 l (by rw [H.like.1,H.like.2.1];exact hl)
set_option maxHeartbeats 16000000 in
set_option maxRecDepth 100000 in
theorem coordinates_ (w:World) (d n:Nat) (hs:Sz d n) {g h:Nat} {t:Tb} (H:HasT w g h t (zeroT d n)) :
    Calls Try.prog 122 #[.pointer (some ⟨g,0,none⟩)] w fun e w'=>∃ v:Value,e=.returned (.tuple #[v,.int .i64 ((coordsOf d n t).2:Int)])∧TermsR w' w.heap.size v (coordsOf d n t).1∧Below w.heap.size w w':=by
  have hu:=Try.underlying38
  have hu2:=Try.underlying79
  have hu3:=Try.underlying77
  have hd0:t.d=d:=H.like.1
  have hn0:t.n=n:=H.like.2.1
  have h0:=H.tab.c0
  have h1:=H.tab.c1
  rw [hd0] at h0
  rw [hn0] at h1
  have HT:=Aside0.mk H
  have HS:=Aside0.mk hs
  have HZ:=Aside0.mk (zeroT_ok hs)
  have hsm:(wordsD d n).length≤19683:=wordsD_small _ _ hs.d3 hs.n8
  have HSM:=Aside0.mk hsm
  have HWL:=Aside0.mk (wordsA_len d n)
  clear H hs hsm hd0 hn0
  go_enter Try.func122,Try.ntmps122
  go_wp2
  go_region_held3 (fun w'=>w'.cell? ⟨g,0,none⟩=some (.int .i64 (d:Int))∧w'.cell? ⟨g,1,none⟩=some (.int .i64 (n:Int))) (go_keep) (first
    | (go_at_call 175;refine (allWords_ _ d n HS.out).mono ?_;rintro e w3 ⟨A,c,rfl,W,hb⟩;have HB:=Aside0.mk (show Below w.heap.size w w3 from qh_ (by repeat (first|(with_reducible exact Below.refl _ _)|(with_reducible refine qc_ ?_)|(with_reducible refine qa_ ?_ _)|(with_reducible refine qb_ ?_ _))) hb);have HW:=Aside0.mk (show ∃ B,WordsAt w3 B A c (wordsA d n) from ⟨_,W⟩);have T3:=(HT.out.below HB.out).tab;have z0:=T3.c0;have z1:=T3.c1;rw [show t.d=d from HT.out.like.1] at z0;rw [show t.n=n from HT.out.like.2.1] at z1;clear T3 W hb))
  go_wp2
  clear h0 h1 z0 z1
  have HT1:=Aside0.mk (HT.out.below HB.out)
  go_loopg [0,4,18] (wordsD d n).length (fun gg v0 v4 v18 wr=>∃ (i g1 k1:Nat) (v:Value) (tc:Tb) (acc:List S79),i≤(wordsD d n).length∧(wordsD d n).length - i≤gg∧v0=.pointer (some ⟨g1,0,none⟩)∧v4=v∧v18=.int .i64 i∧Aside0 (HasT wr g1 k1 tc (zeroT d n))∧Aside0 (TermsR wr w.heap.size v acc)∧Aside0 (acc.length≤i)∧Aside0 (coLoop d n ((wordsD d n).drop i) tc acc=coordsOf d n t)∧Aside0 (Below w.heap.size w wr)∧Aside0 (∃ B,WordsAt wr B A c (wordsA d n)))
  case atStart=>exact ⟨0,g,h,_,t,[],Nat.zero_le _,by omega,rfl,rfl,rfl,HT1,⟨Kd.R_nil _ _ _ _ _⟩,⟨Nat.le_refl _⟩,⟨rfl⟩,HB,HW⟩
  case round =>
    clear HT1 HB HW HT
    obtain ⟨i,g1,k1,u4,tc,acc,hi,hg,rfl,he4,rfl,HO,HR,HA,HC,HB,HW⟩:=hrel
    have he5:=he4.symm
    subst he5
    by_cases hlt:i < (wordsD d n).length
    · have hltz:(i:Int) < ((wordsD d n).length:Int):=by omega
      obtain ⟨B,HWb⟩:=HW.out
      obtain ⟨ad,rfl,hx⟩:=HWb.at i (by have:=HWL.out;omega)
      obtain ⟨l,hl⟩:∃ x,x=(wordsD d n)[i]:=⟨_,rfl⟩
      have hxl:(wordsA d n)[i]'(by have:=HWL.out;omega)=encW l:=by rw [hl];simp [wordsA]
      rw [hxl] at hx
      have hI:isD d n l:=(wordsD_mem d n l).1 (by rw [hl];exact List.getElem_mem hlt)
      have HWB:=Aside0.mk HWb
      obtain ⟨a,ha⟩:∃ a,a=tc.val l:=⟨_,rfl⟩
      have HAT:=Aside0.mk (show ∀ W,HasT W g1 k1 tc (zeroT d n)→Calls Try.prog 176 #[.pointer (some ⟨g1,0,none⟩),.string (encW l)] W fun e w'=>e=.returned (.agg #[.int .i64 a.f0,.int .i64 a.f1])∧Below W.heap.size W w' from fun W H=>by have:=atL W H l hI;rwa [← ha] at this)
      have HAV:=Aside0.mk ha
      have HAO:=Aside0.mk (show okF a by rw [ha];exact HO.out.like.2.2.val l)
      have HI:=Aside0.mk hI
      obtain ⟨kk,hkk⟩:=(lyn_is l (isD_100 hI HS.out.d3) (by have:=hI.1;have:=HS.out.n8;omega)).rounds
      have HK:=Aside0.mk hkk
      have HLL:=Aside0.mk hl
      have HCC:=HC.out
      rw [List.drop_eq_getElem_cons hlt,← hl,coLoop,← ha] at HCC
      clear hl hxl HWb ha hI hkk
      by_cases ca:a.f0=0
      · rw [if_pos ca] at HCC
        have HCN:=Aside0.mk HCC
        clear HCC
        go_wp2_with (go_at_call 176;refine (HAT.out _ HO.out).mono ?_;rintro e w2 ⟨rfl,hb⟩;have H2:=Aside0.mk hb;clear hb)
        go_roundg ((wordsD d n).length - (i+1))
        case measure=>omega
        case rel=>exact ⟨i+1,g1,k1,_,tc,acc,by omega,by omega,rfl,rfl,by have:=HSM.out;first|rfl|(rw [w64 (by omega) (by omega)];rfl),⟨(HO.out.below H2.out).below (qb_ (Below.refl _ _) _)⟩,⟨Kd.qi2_ (Kd.qi2_ HR.out H2.out) (qb_ (Below.refl _ _) _)⟩,⟨by have:=HA.out;omega⟩,HCN,⟨qb_ (qh_ HB.out H2.out) _⟩,⟨_,(HWB.out.below H2.out).below (qb_ (Below.refl _ _) _)⟩⟩
      · rw [if_neg ca] at HCC
        have hcz:(a.f0 != 0)=true:=by simpa using ca
        by_cases cl:lynN l=true
        · rw [if_pos cl] at HCC
          have hk2:=HK.out
          rw [cl] at hk2
          have HKt:=Aside0.mk hk2
          have HCN:=Aside0.mk HCC
          have HLY:=Aside0.mk cl
          clear HCC hk2 cl
          go_wp2_with (first
            | (go_at_call 176;refine (HAT.out _ HO.out).mono ?_;rintro e w2 ⟨rfl,hb⟩;have H2:=Aside0.mk hb;clear hb)
            | (go_at_call 99;refine (qs_.calls kk _ _ _ HKt.out).mono ?_;rintro e w3 ⟨rfl,⟨nd,hw3⟩⟩;have H3:Aside0 (Below w2.heap.size w2 w3):=Aside0.mk (by rw [hw3];exact qa_ (qb_ (Below.refl _ _) _) _);have F3:Aside0 (FrAt w3 w2.heap.size a):=Aside0.mk (by rw [hw3];exact (FrAt.new _ _).drewN _);have c3:=F3.out.c0;have c4:=F3.out.c1;have HB3:=Aside0.mk (show Below w.heap.size w w3 from qh_ (qh_ HB.out H2.out) H3.out);have HO3:=Aside0.mk ((HO.out.below H2.out).below H3.out);have HR3:Aside0 (TermsR w3 w.heap.size u4 acc):=Aside0.mk (Kd.qi2_ (Kd.qi2_ HR.out H2.out) H3.out);have HW3:=Aside0.mk ((HWB.out.below H2.out).below H3.out);clear hw3)
            | ((with_reducible refine qd2_ (b:=.append) (xs:=#[.tmp 31,.tmp 35]) rfl ?_);at_builtin;refine Kd.R_append k79 (w0:=w) w.heap.size rfl (.tmp 31) (.tmp 35) 24 79 (.agg #[(.string ⟨#[]⟩),(.int .i64 0),(.int .i64 0)]) 32 rfl Try.underlying24 info79' rfl (by decide) (by omega) u4 acc ⟨encW l,a⟩ [.string (encW l),.int .i64 a.f0,.int .i64 a.f1] (fun _=>True) (fun _=>False) rfl rfl ?aP (fun _ hk=>hk.elim) ?aF ?aO ?aB ?aS ?aL ?_;(case aP=>exact k79_mkM _ _ _ ⟨encW l,a⟩);(case aB=>exact HB3.out);(case aF=>exact (fun _ _=>trivial));(case aO=>exact HR3.out);(case aS=>exact (qk_ HB3.out));(case aL=>have:=HA.out;have:=HSM.out;omega);intro v1 w5 ho hb hg hat;have F5:Aside0 (FrAt w5 w2.heap.size a):=Aside0.mk (qc3_ F3.out hg (Kd.R_ne HR3.out F3.out (by decide)));have HO5:Aside0 (HasT w5 g1 k1 tc (zeroT d n)):=Aside0.mk ⟨⟨qc3_ HO3.out.tab.st hg (Kd.R_ne HR3.out HO3.out.tab.st (by decide)),qc3_ HO3.out.tab.vl hg (Kd.R_ne HR3.out HO3.out.tab.vl (by decide))⟩,HO3.out.like⟩;have HR5:=Aside0.mk ho;have HB5:=Aside0.mk hb;have HW5:Aside0 (∃ B,WordsAt w5 B (some ad) c (wordsA d n)):=Aside0.mk ⟨_,WordsAt.grown HW3.out HR3.out hg⟩;clear ho hb hg hat c3 c4))
          all_goals
            clear hcz
            have HD:=Aside0.mk (show tc.d=d from HO.out.like.1)
            have HN:=Aside0.mk (show tc.n=n from HO.out.like.2.1)
            have x0:=HO5.out.tab.c0
            have x1:=HO5.out.tab.c1
            rw [HD.out] at x0
            rw [HN.out] at x1
            have x3:=F5.out.c0
            have x4:=F5.out.c1
            have H1:=Aside0.mk (show ∀ W,Calls Try.prog 100 #[.int .i64 (d:Int),.int .i64 (n:Int),.string (encW l)] W (NewT W (bracketT d n l) (zeroT d n)) from fun W=>bracket' W d n l HS.out HI.out (lynN_pos HLY.out))
            obtain ⟨flag,hflag⟩:∃ b:Nat,b=0:=⟨0,rfl⟩
            go_region_held3 (fun w'=>w'.cell? ⟨g1,0,none⟩=some (.int .i64 (d:Int))∧w'.cell? ⟨g1,1,none⟩=some (.int .i64 (n:Int))∧w'.cell? ⟨w2.heap.size,0,none⟩=some (.int .i64 a.f0)∧w'.cell? ⟨w2.heap.size,1,none⟩=some (.int .i64 a.f1)) (go_keep) (first
              | (go_at_call 100;refine (H1.out _).mono ?_;rintro e w6 ⟨g6,k6,rfl,T,hg,hh,hb⟩;have HB6:=Aside0.mk (show Below w5.heap.size w5 w6 from qh_ (by repeat (first|(with_reducible exact Below.refl _ _)|(with_reducible refine qc_ ?_)|(with_reducible refine qa_ ?_ _)|(with_reducible refine qb_ ?_ _))) hb);have HT6:=Aside0.mk T;have x3:=(F5.out.below HB6.out).c0;have x4:=(F5.out.below HB6.out).c1;have x0:=(HO5.out.below HB6.out).tab.c0;have x1:=(HO5.out.below HB6.out).tab.c1;rw [HD.out] at x0;rw [HN.out] at x1;clear T hg hh hb)
              | (go_at_call 130;clear hflag;refine (scaledL _ HT6.out a HAO.out).mono ?_;rintro e w7 ⟨g7,k7,rfl,T,hg,hh,hb⟩;have HB7:=Aside0.mk (show Below w5.heap.size w5 w7 from qh_ HB6.out hb);have HT7:=Aside0.mk T;have x3:=(F5.out.below HB7.out).c0;have x4:=(F5.out.below HB7.out).c1;have x0:=(HO5.out.below HB7.out).tab.c0;have x1:=(HO5.out.below HB7.out).tab.c1;rw [HD.out] at x0;rw [HN.out] at x1;clear T hg hh hb)
              | (go_at_call 165;refine (impl_whole.calls (-1) (-1) 1 _ rfl).mono ?_;rintro e w8 ⟨rfl,hb⟩;have HB8:=Aside0.mk (show Below w5.heap.size w5 w8 from qh_ HB7.out hb);have HT8:=Aside0.mk (HT7.out.below hb);have x3:=(F5.out.below HB8.out).c0;have x4:=(F5.out.below HB8.out).c1;have x0:=(HO5.out.below HB8.out).tab.c0;have x1:=(HO5.out.below HB8.out).tab.c1;rw [HD.out] at x0;rw [HN.out] at x1;clear hb)
              | (go_at_call 130;refine (scaledL _ HT8.out negF neg_okF).mono ?_;rintro e w9 ⟨g9,k9,rfl,T,hg,hh,hb⟩;have HB9:=Aside0.mk (show Below w5.heap.size w5 w9 from qh_ HB8.out hb);have HT9:=Aside0.mk T;have x3:=(F5.out.below HB9.out).c0;have x4:=(F5.out.below HB9.out).c1;have x0:=(HO5.out.below HB9.out).tab.c0;have x1:=(HO5.out.below HB9.out).tab.c1;rw [HD.out] at x0;rw [HN.out] at x1;clear T hg hh hb)
              | (go_at_call 129;refine (sumL _ (HO5.out.below HB9.out) HT9.out HZ.out).mono ?_;rintro e w10 ⟨g10,k10,rfl,T,hg,hh,hb⟩;have HB10:=Aside0.mk (show Below w5.heap.size w5 w10 from qh_ HB9.out hb);have HT10:=Aside0.mk T;have x3:=(F5.out.below HB10.out).c0;have x4:=(F5.out.below HB10.out).c1;have x0:=(HO5.out.below HB10.out).tab.c0;have x1:=(HO5.out.below HB10.out).tab.c1;rw [HD.out] at x0;rw [HN.out] at x1;have x5:=T.tab.c3;clear T hg hh hb))
            by_cases cb:(minusT d n tc l a).bad=true
            · rw [show sumT tc (scaleT (scaleT (bracketT d n l) a) negF)=minusT d n tc l a from rfl,cb] at x5
              have h9:=HCN.out
              rw [if_pos cb] at h9
              have HCF:=Aside0.mk h9
              clear h9 cb
              go_wp2
              go_returns
              rw [← HCF.out]
              exact ⟨_,rfl,Kd.R_nil _ _ _ _ _,qh_ HB5.out HB10.out⟩
            · have cf:(minusT d n tc l a).bad=false:=by simpa using cb
              rw [show sumT tc (scaleT (scaleT (bracketT d n l) a) negF)=minusT d n tc l a from rfl,cf] at x5
              have h9:=HCN.out
              rw [if_neg cb] at h9
              have HCF:=Aside0.mk h9
              have HTN:Aside0 (HasT w10 g10 k10 (minusT d n tc l a) (zeroT d n)):=Aside0.mk HT10.out
              clear h9 cb cf
              go_wp2
              go_roundg ((wordsD d n).length - (i+1))
              case measure=>omega
              case rel =>
                obtain ⟨B5,hB⟩:=HW5.out
                exact ⟨i+1,g10,k10,_,minusT d n tc l a,acc ++ [⟨encW l,a⟩],by omega,by omega,rfl,rfl,by have:=HSM.out;first|rfl|(rw [w64 (by omega) (by omega)];rfl),HTN,⟨Kd.qi2_ HR5.out HB10.out⟩,⟨by have:=HA.out;rw [List.length_append,List.length_singleton];omega⟩,HCF,⟨qh_ HB5.out HB10.out⟩,⟨_,hB.below HB10.out⟩⟩
        · rw [if_neg cl] at HCC
          have hk2:=HK.out
          have cf:lynN l=false:=by simpa using cl
          rw [cf] at hk2
          have HKt:=Aside0.mk hk2
          have HCN:=Aside0.mk HCC
          clear HCC hk2 cl cf
          go_wp2_with (first
            | (go_at_call 176;refine (HAT.out _ HO.out).mono ?_;rintro e w2 ⟨rfl,hb⟩;have H2:=Aside0.mk hb;clear hb)
            | (go_at_call 99;refine (qs_.calls kk _ _ _ HKt.out).mono ?_;rintro e w3 ⟨rfl,⟨nd,hw3⟩⟩;have H3:Aside0 (Below w2.heap.size w2 w3):=Aside0.mk (by rw [hw3];exact qa_ (qb_ (Below.refl _ _) _) _);clear hw3))
          go_returns
          rw [← HCN.out]
          exact ⟨_,rfl,Kd.R_nil _ _ _ _ _,qh_ (qh_ HB.out H2.out) H3.out⟩
    · have hltz:¬ (i:Int) < ((wordsD d n).length:Int):=by omega
      obtain rfl:i=(wordsD d n).length:=by omega
      have hh:=HC.out
      rw [List.drop_length,coLoop] at hh
      have HCN:=Aside0.mk hh
      clear hh
      go_wp2
      go_returns
      rw [← HCN.out]
      exact ⟨_,rfl,HR.out,HB.out⟩
end Go.Proofs.Ytaiefdhenikiiaa.Base
namespace Go.Proofs.Ytaiefdhenikiiaa.Base
open Go.RowKit Go.Proofs.YtaiefdhenikiiaaW.PrintWords Go.Proofs.YtaiefdhenikiiaaW.PrintLast Go.Proofs.YtaiefdhenikiiaaW.PrintMore
set_option linter.unusedVariables false
set_option linter.unusedSimpArgs false
theorem foldl_val (d:Nat) (l:List Nat):∀ v,l.foldl (fun v x=>v * d+x) v=v * d ^ l.length+valN d l:=by
  induction l with
  | nil=>intro v;simp [valN]
  | cons x l ih =>
    intro v
    have h0:valN d (x :: l)=l.foldl (fun v x=>v * d+x) (0 * d+x):=rfl
    rw [h0,ih (0 * d+x),List.foldl_cons,ih (v * d+x),List.length_cons,Nat.pow_succ,Nat.add_mul,Nat.mul_assoc,Nat.mul_comm d,Nat.zero_mul,Nat.zero_add]
    omega
theorem valN_cons (d x:Nat) (l:List Nat):valN d (x :: l)=x * d ^ l.length+valN d l:=by
  have h0:valN d (x :: l)=l.foldl (fun v x=>v * d+x) (0 * d+x):=rfl
  rw [h0,foldl_val,Nat.zero_mul,Nat.zero_add]
theorem val_lt (d:Nat) (l:List Nat) (h:∀ x ∈ l,x < d):valN d l < d ^ l.length:=by
  induction l with
  | nil=>simp [valN]
  | cons x l ih =>
    have h1:=ih (fun y hy=>h y (List.mem_cons_of_mem _ hy))
    have h2:=h x List.mem_cons_self
    rw [valN_cons,List.length_cons,Nat.pow_succ,Nat.mul_comm (d ^ l.length)]
    have h3:(x+1) * d ^ l.length≤d * d ^ l.length:=Nat.mul_le_mul_right _ h2
    rw [Nat.add_mul,Nat.one_mul] at h3
    omega
theorem less_val (d:Nat):∀ a b:List Nat,a.length=b.length→(∀ x ∈ a,x < d)→(∀ x ∈ b,x < d)→(lessN a b=true ↔ valN d a < valN d b)
  | [],[],_,_,_=>by simp [lessN]
  | [],b :: y,h,_,_=>by simp at h
  | a :: x,[],h,_,_=>by simp at h
  | a :: x,b :: y,h,ha,hb=>by
    have hl:x.length=y.length:=by simpa using h
    have ih:=less_val d x y hl (fun i hi=>ha i (List.mem_cons_of_mem _ hi)) (fun i hi=>hb i (List.mem_cons_of_mem _ hi))
    have h1:=val_lt d x (fun i hi=>ha i (List.mem_cons_of_mem _ hi))
    have h2:=val_lt d y (fun i hi=>hb i (List.mem_cons_of_mem _ hi))
    simp only [lessN,Bool.or_eq_true,decide_eq_true_eq,Bool.and_eq_true,beq_iff_eq]
    rw [ih,valN_cons,valN_cons,← hl]
    rw [← hl] at h2
    obtain ⟨p,hp⟩:∃ p,p=d ^ x.length:=⟨_,rfl⟩
    rw [← hp] at h1 h2 ⊢
    constructor
    · rintro (c|⟨c,c2⟩)
      · have h3:(a+1) * p≤b * p:=Nat.mul_le_mul_right _ c
        rw [Nat.add_mul,Nat.one_mul] at h3
        omega
      · rw [c];omega
    · intro c
      by_cases e:a=b
      · right;rw [e] at c;exact ⟨e,by omega⟩
      · left
        by_cases e2:a < b
        · exact e2
        · exfalso
          have h3:(b+1) * p≤a * p:=Nat.mul_le_mul_right _ (by omega)
          rw [Nat.add_mul,Nat.one_mul] at h3
          omega
theorem ahead_mono (d:Nat) {a b:Nat} (h:a≤b):aheadN d a≤aheadN d b:=by
  induction h with
  | refl=>exact Nat.le_refl _
  | step _ ih=>simp only [aheadN];omega
theorem num_lt_iff (d:Nat) (a b:List Nat) (ha:∀ x ∈ a,x < d) (hb:∀ x ∈ b,x < d):numN d a < numN d b ↔ (if a.length ≠ b.length then a.length < b.length else lessN a b=true):=by
  have h1:=val_lt d a ha
  have h2:=val_lt d b hb
  unfold numN
  by_cases e:a.length=b.length
  · rw [if_neg (by simpa using e),less_val d a b e ha hb,e];omega
  · rw [if_pos e]
    constructor
    · intro c
      rcases Nat.lt_or_ge a.length b.length with c1|c1
      · exact c1
      · exfalso
        have h3:=ahead_mono d (show b.length+1≤a.length by omega)
        have h4:aheadN d (b.length+1)=aheadN d b.length+d ^ b.length:=rfl
        omega
    · intro c
      have h3:=ahead_mono d (show a.length+1≤b.length by omega)
      have h4:aheadN d (a.length+1)=aheadN d a.length+d ^ a.length:=rfl
      omega
theorem bef_enc (d:Nat) (hd:d≤9) (a b:List Nat) (ha:∀ x ∈ a,x < d) (hb:∀ x ∈ b,x < d):befW (encW a) (encW b)=decide (numN d a < numN d b):=by
  have h:=num_lt_iff d a b ha hb
  unfold befW
  rw [encW_size,encW_size,encW_list,encW_list,less_enc a b (fun i hi=>by have:=ha i hi;omega) (fun i hi=>by have:=hb i hi;omega)]
  by_cases e:a.length=b.length
  · rw [if_neg (by simpa using e)] at h
    rw [if_neg (by omega),Bool.eq_iff_iff,decide_eq_true_iff]
    exact h.symm
  · rw [if_pos e] at h
    rw [if_pos (by omega),decide_eq_decide,h]
    omega
def termOf (t:Tb) (i:Nat):Option S79:=if (t.vs.getD i zeroF).f0 ≠ 0 then some ⟨(wordsA t.d t.n).getD i ByteArray.empty,t.vs.getD i zeroF⟩ else none
def segT (t:Tb) (lo m:Nat):List S79:=(List.range' lo m).filterMap (termOf t)
theorem termsN_seg (t:Tb) (n:Nat):termsN t n=segT t 0 n:=by
  induction n with
  | zero=>rfl
  | succ n ih =>
    rw [termsN_succ,ih]
    unfold segT
    rw [List.range'_1_concat,List.filterMap_append,Nat.zero_add]
    have e:List.filterMap (termOf t) [n]=(termOf t n).toList:=by cases h:termOf t n <;> simp [h]
    rw [e]
    unfold termStep termOf
    by_cases h:(t.vs.getD n zeroF).f0 ≠ 0
    · rw [if_pos h,if_pos h];rfl
    · rw [if_neg h,if_neg h];simp
theorem termsT_seg (t:Tb):termsT t=segT t 0 (wordsD t.d t.n).length:=termsN_seg t _
theorem seg_add (t:Tb) (lo m n:Nat):segT t lo (m+n)=segT t lo m ++ segT t (lo+m) n:=by
  unfold segT
  rw [← List.filterMap_append,← List.range'_append_1]
theorem seg_one (t:Tb) (lo:Nat):segT t lo 1=(termOf t lo).toList:=by
  unfold segT
  simp only [List.range'_one]
  cases h:termOf t lo <;> simp [h]
theorem seg_split (t:Tb) {k L:Nat} (h:k < L):segT t 0 L=segT t 0 k ++ ((termOf t k).toList ++ segT t (k+1) (L - (k+1))):=by
  conv=>lhs;rw [show L=k+(1+(L - (k+1))) by omega]
  rw [seg_add,seg_add,seg_one,Nat.zero_add]
theorem filterMap_same {α β:Type} {f g:α→Option β}:∀ {l:List α},(∀ x ∈ l,f x=g x)→l.filterMap f=l.filterMap g
  | [],_=>rfl
  | x :: l,h=>by
    rw [List.filterMap_cons,List.filterMap_cons,h x List.mem_cons_self,filterMap_same (fun y hy=>h y (List.mem_cons_of_mem _ hy))]
theorem seg_congr {t u:Tb} (hd:t.d=u.d) (hn:t.n=u.n) (lo m:Nat) (h:∀ i,lo≤i→i < lo+m→t.vs.getD i zeroF=u.vs.getD i zeroF):segT t lo m=segT u lo m:=by
  unfold segT
  apply filterMap_same
  intro i hi
  have:=List.mem_range'_1.1 hi
  unfold termOf
  rw [h i this.1 this.2,hd,hn]
theorem seg_zero (t:Tb) (lo m:Nat) (h:∀ i,lo≤i→i < lo+m→(t.vs.getD i zeroF).f0=0):segT t lo m=[]:=by
  unfold segT
  rw [List.filterMap_eq_nil_iff]
  intro i hi
  have:=List.mem_range'_1.1 hi
  unfold termOf
  rw [if_neg (by rw [h i this.1 this.2];simp)]
theorem mem_seg {t:Tb} {lo m:Nat} {x:S79} (h:x ∈ segT t lo m):∃ i,lo≤i∧i < lo+m∧termOf t i=some x:=by
  unfold segT at h
  obtain ⟨i,hi,e⟩:=List.mem_filterMap.1 h
  have:=List.mem_range'_1.1 hi
  exact ⟨i,this.1,this.2,e⟩
theorem termOf_word {t:Tb} {i:Nat} {x:S79} (hi:i < (wordsD t.d t.n).length) (h:termOf t i=some x):x.f0=encW (wordsD t.d t.n)[i]∧x.f1=t.vs.getD i zeroF∧x.f1.f0 ≠ 0:=by
  unfold termOf at h
  split at h
  · next c =>
    obtain rfl:=Option.some.inj h
    refine ⟨?_,rfl,c⟩
    show (wordsA t.d t.n).getD i ByteArray.empty=_
    unfold wordsA
    rw [List.getD_eq_getElem?_getD,List.getElem?_map,List.getElem?_eq_getElem hi];rfl
  · cases h
theorem word_digits {t:Tb} {i:Nat} (hi:i < (wordsD t.d t.n).length):isD t.d t.n (wordsD t.d t.n)[i]:=(wordsD_mem _ _ _).1 (List.getElem_mem hi)
theorem termOf_bef {t:Tb} (hs:Sz t.d t.n) {i:Nat} {x:S79} (hi:i < (wordsD t.d t.n).length) (h:termOf t i=some x) {l:List Nat} (hl:isD t.d t.n l):befW x.f0 (encW l)=decide (i < numN t.d l):=by
  rw [(termOf_word hi h).1,bef_enc t.d (by have:=hs.d3;omega) _ _ (word_digits hi).2 hl.2,wordsD_at]
theorem encW_inj {a b:List Nat} (ha:∀ x ∈ a,x < 100) (hb:∀ x ∈ b,x < 100) (h:encW a=encW b):a=b:=by
  rw [← decW_encW a ha,← decW_encW b hb,h]
/-- A fraction with the numerator 0 is 0. -/
theorem okF_zero {a:S77} (h:okF a) (h0:a.f0=0):a=zeroF:=by
  obtain ⟨h1,_,_,_,h5⟩:=h
  rw [h0,Int.gcd_zero_left] at h5
  exact S77.ext' h0 (by show a.f1=1;omega)
theorem plus_zero {a:S77} (h:okF a):plusM zeroF a=(a,true):=by
  obtain ⟨h1,h2,h3,h4,h5⟩:=h
  have e1:zeroF.f0 * a.f1+a.f0 * zeroF.f1=a.f0:=by show 0 * a.f1+a.f0 * 1=a.f0;omega
  have e2:zeroF.f1 * a.f1=a.f1:=by show 1 * a.f1=a.f1;omega
  have e3:byM a.f0 a.f1=1:=by unfold byM;rw [if_neg (by omega),h5];rfl
  unfold plusM redM
  rw [e1,e2,e3,Int.ediv_one,Int.ediv_one]
  rw [decide_eq_true (show okF ⟨a.f0,a.f1⟩ from ⟨h1,h2,h3,h4,h5⟩)]
/-- What l01Put does with terms. -/
def putAt (l:List S79) (w:ByteArray):Nat:=(l.takeWhile fun x=>befW x.f0 w).length
def putL (l:List S79) (w:ByteArray) (a:S77):Option (List S79) :=
  match l[putAt l w]? with
  | some x=>if x.f0=w then (if (plusM x.f1 a).2=true then some (l.take (putAt l w) ++ (if (plusM x.f1 a).1.f0=0 then [] else [⟨w,(plusM x.f1 a).1⟩]) ++ l.drop (putAt l w+1)) else none)
    else some (l.take (putAt l w) ++ (if a.f0=0 then [] else [⟨w,a⟩]) ++ l.drop (putAt l w))
  | none=>some (l.take (putAt l w) ++ (if a.f0=0 then [] else [⟨w,a⟩]) ++ l.drop (putAt l w))
theorem takeWhile_parts {α:Type} (p:α→Bool) (a b:List α) (ha:∀ x ∈ a,p x=true) (hb:∀ x ∈ b,p x=false):((a ++ b).takeWhile p)=a:=by
  induction a with
  | nil =>
    cases b with
    | nil=>rfl
    | cons y b=>rw [List.nil_append,List.takeWhile_cons_of_neg (by rw [hb y List.mem_cons_self];simp)]
  | cons x a ih=>rw [List.cons_append,List.takeWhile_cons_of_pos (ha x List.mem_cons_self),ih (fun y hy=>ha y (List.mem_cons_of_mem _ hy))]
theorem put_getD (t:Tb) (k:Nat) (hk:k < t.vs.length) (a:S77) (i:Nat):(t.put k a).vs.getD i zeroF=if i=k then a else t.vs.getD i zeroF:=by
  unfold Tb.put
  simp only [List.getD_eq_getElem?_getD,List.getElem?_set]
  by_cases e:k=i
  · rw [if_pos e,if_pos e.symm,if_pos (by omega),Option.getD_some]
  · rw [if_neg e,if_neg (fun h=>e h.symm)]
/-- A term put among the terms of a table is a value of the table put. -/
theorem putL_terms {t:Tb} (ht:t.Ok) {l:List Nat} (hl:isD t.d t.n l) {a:S77} (ha:okF a) :
    putL (termsT t) (encW l) a=if (plusM (t.val l) a).2=true then some (termsT (t.put (numN t.d l) (plusM (t.val l) a).1)) else none:=by
  have hk:numN t.d l < (wordsD t.d t.n).length:=numN_lt _ _ _ hl
  have hkv:=ht.lt hl
  obtain ⟨k,hke⟩:∃ k,k=numN t.d l:=⟨_,rfl⟩
  have hv:t.val l=t.vs.getD k zeroF:=by rw [hke];rfl
  have hwl:(wordsD t.d t.n)[numN t.d l]?=some l:=wordsD_is _ _ _ hl
  rw [hv]
  rw [← hke] at hk hkv hwl ⊢
  have hlw:(wordsD t.d t.n)[k]=l:=by rw [List.getElem?_eq_getElem hk] at hwl;exact Option.some.inj hwl
  have hA:∀ x ∈ segT t 0 k,befW x.f0 (encW l)=true:=by
    intro x hx
    obtain ⟨i,_,h2,e⟩:=mem_seg hx
    rw [termOf_bef ht.sz (by omega) e hl,← hke];simp;omega
  have hB:∀ x ∈ ((termOf t k).toList ++ segT t (k+1) ((wordsD t.d t.n).length - (k+1))),befW x.f0 (encW l)=false:=by
    intro x hx
    rcases List.mem_append.1 hx with hx|hx
    · have e:termOf t k=some x:=by simpa using hx
      rw [termOf_bef ht.sz hk e hl,← hke];simp
    · obtain ⟨i,h1,h2,e⟩:=mem_seg hx
      rw [termOf_bef ht.sz (by omega) e hl,← hke];simp;omega
  have hT:termsT t=segT t 0 k ++ ((termOf t k).toList ++ segT t (k+1) ((wordsD t.d t.n).length - (k+1))):=by rw [termsT_seg,seg_split t hk]
  have hat:putAt (termsT t) (encW l)=(segT t 0 k).length:=by unfold putAt;rw [hT,takeWhile_parts _ _ _ hA hB]
  have hP:∀ b:S77,termsT (t.put k b)=segT t 0 k ++ ((if b.f0=0 then [] else [⟨encW l,b⟩]) ++ segT t (k+1) ((wordsD t.d t.n).length - (k+1))):=by
    intro b
    have e0:termsT (t.put k b)=segT (t.put k b) 0 (wordsD t.d t.n).length:=termsT_seg _
    rw [e0,seg_split _ hk]
    have e1:segT (t.put k b) 0 k=segT t 0 k:=seg_congr (t:=t.put k b) (u:=t) rfl rfl _ _ (fun i _ h2=>by rw [put_getD t k hkv,if_neg (by omega)])
    have e2:segT (t.put k b) (k+1) ((wordsD t.d t.n).length - (k+1))=segT t (k+1) ((wordsD t.d t.n).length - (k+1)):=seg_congr (t:=t.put k b) (u:=t) rfl rfl _ _ (fun i h1 _=>by rw [put_getD t k hkv,if_neg (by omega)])
    have e3:(termOf (t.put k b) k).toList=if b.f0=0 then [] else [⟨encW l,b⟩]:=by
      unfold termOf
      rw [put_getD t k hkv,if_pos rfl]
      have e4:(wordsA (t.put k b).d (t.put k b).n).getD k ByteArray.empty=encW l:=by
        show (wordsA t.d t.n).getD k ByteArray.empty=encW l
        unfold wordsA
        rw [List.getD_eq_getElem?_getD,List.getElem?_map,hwl];rfl
      rw [e4]
      by_cases c:b.f0=0
      · rw [if_neg (by simpa using c),if_pos c];rfl
      · rw [if_pos c,if_neg c];rfl
    rw [e1,e2,e3]
  rw [hP]
  unfold putL
  rw [hat,hT,List.take_left]
  by_cases c:(t.vs.getD k zeroF).f0=0
  · -- no such term
    have e1:termOf t k=none:=by unfold termOf;rw [if_neg (by simpa using c)]
    have hz:t.vs.getD k zeroF=zeroF:=okF_zero (by have:=ht.val l;rwa [hv] at this) c
    rw [e1,hz,plus_zero ha,if_pos rfl]
    simp only [Option.toList_none,List.nil_append]
    rw [List.drop_left,List.getElem?_append_right (Nat.le_refl _),Nat.sub_self]
    cases hR:segT t (k+1) ((wordsD t.d t.n).length - (k+1)) with
    | nil=>simp only [List.getElem?_nil,List.append_assoc]
    | cons y ys =>
      simp only [List.getElem?_cons_zero]
      have hy:y ∈ segT t (k+1) ((wordsD t.d t.n).length - (k+1)):=by rw [hR];exact List.mem_cons_self
      obtain ⟨i,h1,h2,e⟩:=mem_seg hy
      have hne:y.f0 ≠ encW l:=by
        intro hc
        have hi:i < (wordsD t.d t.n).length:=by omega
        rw [(termOf_word hi e).1] at hc
        have hd3:=ht.sz.d3
        have:=encW_inj (fun x hx=>by have:=(word_digits hi).2 x hx;omega) (fun x hx=>by have:=hl.2 x hx;omega) hc
        have h3:=wordsD_at t.d t.n i hi
        rw [this,← hke] at h3
        omega
      rw [if_neg hne,List.append_assoc]
  · have e1:termOf t k=some ⟨encW l,t.vs.getD k zeroF⟩:=by
      unfold termOf
      rw [if_pos c]
      have e4:(wordsA t.d t.n).getD k ByteArray.empty=encW l:=by
        unfold wordsA
        rw [List.getD_eq_getElem?_getD,List.getElem?_map,hwl];rfl
      rw [e4]
    rw [e1]
    simp only [Option.toList_some,List.singleton_append]
    rw [List.getElem?_append_right (Nat.le_refl _),Nat.sub_self]
    simp only [List.getElem?_cons_zero,if_true]
    have e2:(segT t 0 k ++ (⟨encW l,t.vs.getD k zeroF⟩:S79) :: segT t (k+1) ((wordsD t.d t.n).length - (k+1))).drop ((segT t 0 k).length+1)=segT t (k+1) ((wordsD t.d t.n).length - (k+1)):=by
      rw [← List.drop_drop,List.drop_left];rfl
    rw [e2]
    by_cases cp:(plusM (t.vs.getD k zeroF) a).2=true
    · rw [if_pos cp,if_pos cp,List.append_assoc]
    · rw [if_neg cp,if_neg cp]
end Go.Proofs.Ytaiefdhenikiiaa.Base
namespace Go.Proofs.Ytaiefdhenikiiaa.Base
open Go.RowKit Go.Proofs.YtaiefdhenikiiaaW.PrintWords Go.Proofs.YtaiefdhenikiiaaW.PrintLast Go.Proofs.YtaiefdhenikiiaaW.PrintMore
set_option linter.unusedVariables false
set_option linter.unusedSimpArgs false
theorem wordB_is {d n:Nat} {s:ByteArray} (h:wordB d n s=true) (hd:d≤9):isWd d n s:=by
  unfold wordB at h
  rw [Bool.and_eq_true,List.all_eq_true,decide_eq_true_iff] at h
  obtain ⟨h1,h2⟩:=h
  have hb:∀ b ∈ s.data.toList,48≤b.toNat∧b.toNat < 48+d:=fun b hb=>of_decide_eq_true (h1 b hb)
  refine ⟨?_,?_,?_⟩
  · apply ByteArray.ext
    unfold encW decW
    rw [List.map_map]
    have:(s.data.toList.map ((fun i=>UInt8.ofNat (48+i)) ∘ fun b=>b.toNat - 48))=s.data.toList:=by
      conv=>rhs;rw [← List.map_id s.data.toList]
      apply List.map_congr_left
      intro b hb'
      have:=hb b hb'
      simp only [Function.comp,id_eq]
      rw [show 48+(b.toNat - 48)=b.toNat by omega,UInt8.ofNat_toNat]
    rw [this]
  · unfold decW;rw [List.length_map,Array.length_toList]
    have:s.size=s.data.size:=rfl
    omega
  · intro x hx
    unfold decW at hx
    obtain ⟨b,hb',rfl⟩:=List.mem_map.1 hx
    have:=hb b hb'
    show b.toNat - 48 < d
    omega
theorem good_okTs {d n:Nat} (hd:d≤9):∀ {l:List S79},goodB d n l=true→okTs d n l∧∀ x ∈ l,x.f1.f0 ≠ 0
  | [],_=>⟨fun x hx=>by simp at hx,fun x hx=>by simp at hx⟩
  | [x],h=>by
    simp only [goodB,termB,Bool.and_eq_true,decide_eq_true_eq,bne_iff_ne,Bool.and_true] at h
    refine ⟨fun y hy=>?_,fun y hy=>?_⟩ <;> obtain rfl:=List.mem_singleton.1 hy
    · exact ⟨wordB_is h.1.1 hd,h.1.2⟩
    · exact h.2
  | x :: y :: l,h=>by
    simp only [goodB,Bool.and_eq_true] at h
    obtain ⟨h1,_,h3⟩:=h
    have ih:=good_okTs hd h3
    simp only [termB,Bool.and_eq_true,decide_eq_true_eq,bne_iff_ne,Bool.and_true] at h1
    refine ⟨fun z hz=>?_,fun z hz=>?_⟩ <;> rcases List.mem_cons.1 hz with rfl|hz
    · exact ⟨wordB_is h1.1.1 hd,h1.1.2⟩
    · exact ih.1 z hz
    · exact h1.2
    · exact ih.2 z hz
def numS (d:Nat) (x:S79):Nat:=numN d (decW x.f0)
theorem bef_num {d n:Nat} (hd:d≤9) {x y:S79} (hx:isWd d n x.f0) (hy:isWd d n y.f0):befW x.f0 y.f0=decide (numS d x < numS d y):=by
  conv=>lhs;rw [← hx.1,← hy.1]
  rw [bef_enc d hd _ _ hx.2.2 hy.2.2];rfl
theorem good_sorted {d n:Nat} (hd:d≤9):∀ {l:List S79},goodB d n l=true→l.Pairwise (fun x y=>numS d x < numS d y)
  | [],_=>List.Pairwise.nil
  | [x],_=>List.pairwise_singleton _ _
  | x :: y :: l,h=>by
    have hok:=(good_okTs hd h).1
    simp only [goodB,Bool.and_eq_true] at h
    have ih:=good_sorted hd h.2.2
    have hxy:numS d x < numS d y:=by
      have:=h.2.1
      rw [bef_num hd (hok x List.mem_cons_self).1 (hok y (by simp)).1] at this
      exact of_decide_eq_true this
    refine List.Pairwise.cons (fun z hz=>?_) ih
    rcases List.mem_cons.1 hz with rfl|hz
    · exact hxy
    · exact Nat.lt_trans hxy ((List.pairwise_cons.1 ih).1 z hz)
theorem zero_terms {d n:Nat}:termsT (zeroT d n)=[]:=by
  rw [termsT_seg]
  apply seg_zero
  intro i _ _
  show ((List.replicate (wordsD d n).length zeroF).getD i zeroF).f0=0
  rw [List.getD_eq_getElem?_getD,List.getElem?_replicate]
  split <;> rfl
theorem val_mem {t:Tb} (ht:t.Ok) {l:List Nat} (hl:isD t.d t.n l) (h:(t.val l).f0 ≠ 0):(⟨encW l,t.val l⟩:S79) ∈ termsT t:=by
  have hk:numN t.d l < (wordsD t.d t.n).length:=numN_lt _ _ _ hl
  rw [termsT_seg,seg_split t hk]
  refine List.mem_append_right _ (List.mem_append_left _ ?_)
  have hwl:(wordsD t.d t.n)[numN t.d l]?=some l:=wordsD_is _ _ _ hl
  have e4:(wordsA t.d t.n).getD (numN t.d l) ByteArray.empty=encW l:=by
    unfold wordsA
    rw [List.getD_eq_getElem?_getD,List.getElem?_map,hwl];rfl
  unfold termOf
  rw [show t.vs.getD (numN t.d l) zeroF=t.val l from rfl,if_pos h,e4]
  simp
/-- Terms as_ told are the terms of their table. -/
theorem open_terms {d n:Nat} (hs:Sz d n):∀ (m:Nat) (l:List S79),l.length=m→okTs d n l→(∀ x ∈ l,x.f1.f0 ≠ 0)→l.Pairwise (fun x y=>numS d x < numS d y)→termsT (openN d n l)=l:=by
  intro m
  induction m with
  | zero=>intro l hl _ _ _;obtain rfl:=List.length_eq_zero_iff.1 hl;exact zero_terms
  | succ m ih =>
    intro l hl ho hz hp
    have hne:l ≠ []:=by intro e;rw [e] at hl;simp at hl
    obtain ⟨q,x,rfl⟩:∃ q x,l=q ++ [x]:=⟨l.dropLast,l.getLast hne,(List.dropLast_concat_getLast hne).symm⟩
    have hq:q.length=m:=by simpa using hl
    have hoq:okTs d n q:=fun y hy=>ho y (List.mem_append_left _ hy)
    obtain ⟨hp1,_,hp2⟩:=List.pairwise_append.1 hp
    have e1:=ih q hq hoq (fun y hy=>hz y (List.mem_append_left _ hy)) hp1
    have hlk:=openN_like hs q hoq
    obtain ⟨O,hO⟩:∃ O,O=openN d n q:=⟨_,rfl⟩
    have e2:openN d n (q ++ [x])=openStep O x:=by rw [hO];unfold openN;rw [List.foldl_append];rfl
    rw [← hO] at hlk e1
    obtain ⟨hwx,hfx⟩:=ho x (by simp)
    have hd:O.d=d:=hlk.1
    have hn:O.n=n:=hlk.2.1
    have hx0:x.f1.f0 ≠ 0:=hz x (by simp)
    have hisD:isD O.d O.n (decW x.f0):=by rw [hd,hn];exact hwx.2
    have hv:O.val (decW x.f0)=zeroF:=by
      apply okF_zero (hlk.2.2.val _)
      apply Classical.byContradiction
      intro hc
      have hm:=val_mem hlk.2.2 hisD hc
      rw [e1] at hm
      have h3:=hp2 _ hm x (by simp)
      unfold numS at h3
      simp only [decW_encW (decW x.f0) (fun y hy=>by have:=hwx.2.2 y hy;have:=hs.d3;omega)] at h3
      exact Nat.lt_irrefl _ h3
    have hp:=putL_terms hlk.2.2 hisD hfx
    rw [hv,plus_zero hfx,if_pos rfl,e1,hwx.1] at hp
    have hpl:putL q x.f0 x.f1=some (q ++ [x]):=by
      have hta:putAt q x.f0=q.length:=by
        unfold putAt
        have:=takeWhile_parts (fun y:S79=>befW y.f0 x.f0) q [] (fun y hy=>by
          rw [bef_num (n:=n) (by have:=hs.d3;omega) (hoq y hy).1 hwx]
          exact decide_eq_true (hp2 y hy x (by simp))) (fun y hy=>by simp at hy)
        rw [List.append_nil] at this
        rw [this]
      unfold putL
      rw [hta,List.getElem?_eq_none (Nat.le_refl _)]
      simp only [List.take_length,List.drop_length,List.append_nil]
      rw [if_neg hx0]
    rw [hpl] at hp
    have:=Option.some.inj hp
    rw [e2]
    exact this.symm
theorem good_terms {d n:Nat} (hs:Sz d n) {l:List S79} (h:goodB d n l=true):termsT (openN d n l)=l :=
  have hd:d≤9:=by have:=hs.d3;omega
  open_terms hs l.length l rfl (good_okTs hd h).1 (good_okTs hd h).2 (good_sorted hd h)
end Go.Proofs.Ytaiefdhenikiiaa.Base
namespace Go.Proofs.Ytaiefdhenikiiaa.Base
open Go.RowKit Go.Proofs.YtaiefdhenikiiaaW.PrintWords Go.Proofs.YtaiefdhenikiiaaW.PrintLast Go.Proofs.YtaiefdhenikiiaaW.PrintMore
set_option linter.unusedSimpArgs false
set_option linter.unusedVariables false
theorem eqSer_id (d n:Int) (l:List S79) (hl:l.length≤2000000):Ev (fun q=>qp2_.f q d n l d n l) true:=by
  unfold qp2_.f
  simp only [if_true]
  refine Ev.bind (eqT_same l hl) ?_
  simp only [if_true];exact Ev.now _
theorem marksSer_id (d n:Int) (l:List S79) (hl:l.length≤2000000):∃ l':List S79,Ev (fun q=>qh2_.f q d n l 1) (((1+3 * l.length:Nat):Int),l')∧Ev (fun q=>qw2_.f q d n l' 1) ((1+3 * l.length:Nat):Int):=by
  obtain ⟨l',_,h1,h2⟩:=marksT l hl
  refine ⟨l',?_,?_⟩
  · unfold qh2_.f;exact Ev.bind h1 (Ev.now _)
  · unfold qw2_.f
    refine Ev.bind h2 ?_
    simp only [show ¬ ((1+3 * l.length:Nat):Int) < 0 by omega,if_false]
    exact Ev.now _
end Go.Proofs.Ytaiefdhenikiiaa.Base
namespace Go.Proofs.Ytaiefdhenikiiaa.Base
open Go.RowKit Go.Proofs.YtaiefdhenikiiaaW.PrintWords Go.Proofs.YtaiefdhenikiiaaW.PrintLast Go.Proofs.YtaiefdhenikiiaaW.PrintMore
set_option linter.unusedVariables false
set_option linter.unusedSimpArgs false
theorem szv_loop (l:List S75) (hl:l.length≤2000000) (hw:∀ x ∈ l,x.f0.size≤9223372036854775807) (m:Nat):∀ (j:Nat) (left:Int),j+m=l.length→0≤left→left≤1048576 →
    ∃ v,Ev (fun q=>qm1_.l0 q l left (j:Int)) v∧v≤left∧(0≤v→∀ i (h:i < l.length),j≤i→(l[i].f0.size:Int)≤1048576):=by
  induction m with
  | zero =>
    intro j left hj h0 h1
    refine ⟨left,Ev.step (f:=fun _=>some left) (fun q=>?_) (Ev.now _),Int.le_refl _,fun _ i h hi=>by omega⟩
    simp only [qm1_.l0];rw [if_neg (by omega)]
  | succ m ih =>
    intro j left hj h0 h1
    have hjl:j < l.length:=by omega
    have hs:=hw l[j] (List.getElem_mem hjl)
    have ew:wrap64 (left - (l[j].f0.size:Int))=left - (l[j].f0.size:Int):=w64m (by omega) (by omega)
    by_cases c:left - (l[j].f0.size:Int) < 0
    · refine ⟨-1,Ev.step (f:=fun _=>some (-1)) (fun q=>?_) (Ev.now _),by omega,fun h=>by omega⟩
      simp only [qm1_.l0]
      rw [if_pos (by omega),if_pos (by omega),rd75 l j hjl]
      unfold qg3_.f
      rw [ew,if_pos c]
      simp only [Option.bind_some]
      rw [if_pos (by omega)]
    · obtain ⟨v,h2,hle,h3⟩:=ih (j+1) (left - (l[j].f0.size:Int)) (by omega) (by omega) (by omega)
      refine ⟨v,Ev.step (fun q=>?_) h2,by omega,fun hv i hi hji=>?_⟩
      · simp only [qm1_.l0]
        rw [if_pos (by omega),if_pos (by omega),rd75 l j hjl]
        unfold qg3_.f
        rw [ew,if_neg c]
        simp only [Option.bind_some]
        rw [if_neg c,w64m (x:=(j:Int)+1) (by omega) (by omega)]
        rfl
      · by_cases e:i=j
        · subst e;omega
        · exact h3 hv i hi (by omega)
theorem szv_is (l:List S75) (hn:l.length≤9223372036854775807) (hw:∀ x ∈ l,x.f0.size≤9223372036854775807) (left:Int) (h0:0≤left) (h1:left≤1048576) :
    ∃ v,Ev (fun q=>qm1_.f q l left) v∧v≤left∧(0≤v→l.length≤1048576∧∀ x ∈ l,x.f0.size≤1048576):=by
  have ew:wrap64 (left - (l.length:Int))=left - (l.length:Int):=w64m (by omega) (by omega)
  by_cases c:left - (l.length:Int) < 0
  · refine ⟨-1,Ev.congr (f:=fun _=>some (-1)) (fun q=>?_) (Ev.now _),by omega,fun h=>by omega⟩
    unfold qm1_.f;rw [ew,if_pos c]
  · obtain ⟨v,h2,hle,h3⟩:=szv_loop l (by omega) hw l.length 0 (left - (l.length:Int)) (by omega) (by omega) (by omega)
    refine ⟨v,Ev.congr (fun q=>?_) h2,by omega,fun hv=>⟨by omega,fun x hx=>?_⟩⟩
    · unfold qm1_.f;rw [ew,if_neg c];rfl
    · obtain ⟨i,hi,rfl⟩:=List.mem_iff_getElem.1 hx
      have:=h3 hv i hi (Nat.zero_le _)
      omega
theorem toSer_is (d n:Int) (l:List S75) (hl:l.length≤2000000):Ev (fun q=>qa2_.f q d n l) (d,n,l.map toX):=by
  unfold qa2_.f
  exact Ev.bind (toT_is l hl) (Ev.now _)
theorem szS_is (D N:Int) (l:List S75) (hn:l.length≤9223372036854775807) (hw:∀ x ∈ l,x.f0.size≤9223372036854775807) (left:Int) (h0:0≤left) (h1:left≤1048576) :
    ∃ v,Ev (fun q=>ql2_.f q D N l left) v∧v≤1048576∧(0≤v→l.length≤1048576∧∀ x ∈ l,x.f0.size≤1048576):=by
  obtain ⟨v,hv,hle,h2⟩:=szv_is l hn hw left h0 h1
  by_cases c:v < 0
  · refine ⟨-1,?_,by omega,fun h=>by omega⟩
    unfold ql2_.f
    refine Ev.bind hv ?_
    simp only [c,if_true];exact Ev.now _
  · refine ⟨v,?_,by omega,h2⟩
    unfold ql2_.f
    refine Ev.bind hv ?_
    simp only [c,if_false];exact Ev.now _
/-- A series as_ an argument: what the law's copy is. -/
theorem arg_small (l:List S75) (h:l.length≤1048576∧∀ x ∈ l,x.f0.size≤1048576):smallT (l.map toX):=⟨by rw [List.length_map];exact h.1,fun x hx=>by
  obtain ⟨y,hy,rfl⟩:=List.mem_map.1 hx
  exact h.2 y hy⟩
end Go.Proofs.Ytaiefdhenikiiaa.Base
namespace Go.Proofs.Ytaiefdhenikiiaa.Base
open Go.RowKit Go.Proofs.YtaiefdhenikiiaaW.PrintWords Go.Proofs.YtaiefdhenikiiaaW.PrintLast Go.Proofs.YtaiefdhenikiiaaW.PrintMore
set_option linter.unusedVariables false
set_option linter.unusedSimpArgs false
theorem mem_terms {t:Tb} {x:S79} (h:x ∈ termsT t):∃ l,isD t.d t.n l∧x.f0=encW l∧x.f1=t.val l∧x.f1.f0 ≠ 0:=by
  rw [termsT_seg] at h
  obtain ⟨i,_,h2,e⟩:=mem_seg h
  have hi:i < (wordsD t.d t.n).length:=by omega
  obtain ⟨e1,e2,e3⟩:=termOf_word hi e
  refine ⟨_,word_digits hi,e1,?_,e3⟩
  rw [e2];unfold Tb.val;rw [wordsD_at]
/-- The value of a word among terms. -/
def valL (l:List S79) (w:ByteArray):S77:=match l.find? (fun x=>decide (x.f0=w)) with|some x=>x.f1|none=>zeroF
theorem isD_small {d n:Nat} (hs:Sz d n) {l:List Nat} (h:isD d n l):∀ x ∈ l,x < 100:=fun x hx=>by have:=h.2 x hx;have:=hs.d3;omega
theorem valL_terms {t:Tb} (ht:t.Ok) {l:List Nat} (hl:isD t.d t.n l):valL (termsT t) (encW l)=t.val l:=by
  unfold valL
  cases hf:(termsT t).find? (fun x=>decide (x.f0=encW l)) with
  | none =>
    rw [List.find?_eq_none] at hf
    by_cases c:(t.val l).f0=0
    · exact (okF_zero (ht.val l) c).symm
    · exact absurd (decide_eq_true (rfl:encW l=encW l)) (hf _ (val_mem ht hl c))
  | some x =>
    have h1:=of_decide_eq_true (List.find?_some (p:=fun x:S79=>decide (x.f0=encW l)) hf)
    obtain ⟨l2,h2,h3,h4,_⟩:=mem_terms (List.mem_of_find?_eq_some hf)
    have:=encW_inj (isD_small ht.sz h2) (isD_small ht.sz hl) (h3.symm.trans h1)
    show x.f1=_
    rw [h4,this]
/-- One cut's product is added. -/
def cutO (a b s:S77):Option S77:=if a.f0=0 ∨ b.f0=0 then some s else if (timesM a b).2=true∧(plusM s (timesM a b).1).2=true then some (plusM s (timesM a b).1).1 else none
def cutsO (A B:Nat→S77):Nat→Option S77
  | 0=>some zeroF
  | n+1=>(cutsO A B n).bind (cutO (A n) (B n))
theorem cutO_ok {a b s s':S77} (hs:okF s) (h:cutO a b s=some s'):okF s':=by
  unfold cutO at h
  split at h
  · obtain rfl:=Option.some.inj h;exact hs
  · split at h
    · next c=>obtain rfl:=Option.some.inj h;exact plus_okF c.2
    · cases h
theorem cutsO_ok {A B:Nat→S77}:∀ {n:Nat} {s:S77},cutsO A B n=some s→okF s
  | 0,s,h=>by obtain rfl:=Option.some.inj h;exact zero_okF
  | n+1,s,h=>by
    obtain ⟨s0,h0,h1⟩:=Option.bind_eq_some_iff.1 h
    exact cutO_ok (cutsO_ok h0) h1
theorem Tb.put_self {t:Tb} {k:Nat} {a:S77} (hk:k < t.vs.length) (h:t.vs.getD k zeroF=a):t.put k a=t:=by
  unfold Tb.put
  rw [List.getD_eq_getElem?_getD,List.getElem?_eq_getElem hk,Option.getD_some] at h
  rw [← h,List.set_getElem_self]
theorem Tb.put_put (t:Tb) (k:Nat) (a b:S77):(t.put k a).put k b=t.put k b:=by unfold Tb.put;simp
theorem Tb.chk_true (t:Tb):t.chk true=t:=by unfold Tb.chk;simp
theorem addT_good (o:Tb) (l:List Nat) (a b:S77) (h1:(timesM a b).2=true) (h2:(plusM (o.val l) (timesM a b).1).2=true):o.addT l a b=o.put (numN o.d l) (plusM (o.val l) (timesM a b).1).1:=by
  unfold Tb.addT Tb.addW Tb.add
  rw [h1,Tb.chk_true]
  unfold chkF
  rw [if_pos rfl]
  unfold Tb.val at h2 ⊢
  rw [h2,Tb.chk_true,if_pos rfl]
theorem addT_bad (o:Tb) (l:List Nat) (a b:S77) (h:o.bad=true ∨ ¬ ((timesM a b).2=true∧(plusM (o.val l) (timesM a b).1).2=true)):(o.addT l a b).bad=true:=by
  unfold Tb.addT Tb.addW Tb.add Tb.chk Tb.put
  unfold Tb.val at h
  cases h1:(timesM a b).2 with
  | false=>simp
  | true =>
    rw [h1] at h
    unfold chkF
    simp only [if_true]
    rcases h with h|h
    · simp [h]
    · have:(plusM (o.vs.getD (numN o.d l) zeroF) (timesM a b).1).2=false:=by simpa using h
      rw [List.getD_eq_getElem?_getD] at this
      simp [this]
theorem cutT_bad (t u o:Tb) (l:List Nat) (i:Nat) (h:o.bad=true):(cutT t u l o i).bad=true:=by
  unfold cutT
  split
  · exact addT_bad _ _ _ _ (.inl h)
  · exact h
theorem wordT_bad (t u o:Tb) (l:List Nat) (h:o.bad=true):(wordT t u o l).bad=true:=by
  unfold wordT
  have:∀ n,(cutsT t u l o n).bad=true:=by
    intro n
    induction n with
    | zero=>exact h
    | succ n ih=>rw [cutsT_succ];exact cutT_bad _ _ _ _ _ ih
  exact this _
theorem wordsT_bad (t u:Tb) (ls:List (List Nat)):∀ o:Tb,o.bad=true→(wordsT t u o ls).bad=true:=by
  induction ls with
  | nil=>intro o h;exact h
  | cons l ls ih=>intro o h;exact ih _ (wordT_bad t u o l h)
/-- All cuts of a word. -/
theorem cuts_tab (t u o:Tb) (l:List Nat) (hk:numN o.d l < o.vs.length) (hz:o.val l=zeroF) (n:Nat) :
    match cutsO (fun i=>t.val (l.take i)) (fun i=>u.val (l.drop i)) n with
    | some s=>cutsT t u l o n=o.put (numN o.d l) s
    | none=>(cutsT t u l o n).bad=true:=by
  induction n with
  | zero=>exact (Tb.put_self hk hz).symm
  | succ n ih =>
    rw [cutsT_succ]
    simp only [cutsO]
    cases hc:cutsO (fun i=>t.val (l.take i)) (fun i=>u.val (l.drop i)) n with
    | none =>
      rw [hc] at ih
      simp only [Option.bind_none] at ih ⊢
      exact cutT_bad _ _ _ _ _ ih
    | some s =>
      rw [hc] at ih
      simp only [Option.bind_some] at ih ⊢
      rw [ih]
      have hd:(o.put (numN o.d l) s).d=o.d:=rfl
      have hv:(o.put (numN o.d l) s).val l=s:=by
        unfold Tb.val
        rw [hd,put_getD o _ hk,if_pos rfl]
      unfold cutO cutT
      by_cases c1:(t.val (l.take n)).f0=0 ∨ (u.val (l.drop n)).f0=0
      · rw [if_pos c1,if_neg (fun hh=>by rcases c1 with c1|c1;exact hh.1 c1;exact hh.2 c1)]
      · have c1':(t.val (l.take n)).f0 ≠ 0∧(u.val (l.drop n)).f0 ≠ 0:=⟨fun hh=>c1 (.inl hh),fun hh=>c1 (.inr hh)⟩
        rw [if_neg c1,if_pos c1']
        by_cases c2:(timesM (t.val (l.take n)) (u.val (l.drop n))).2=true∧(plusM s (timesM (t.val (l.take n)) (u.val (l.drop n))).1).2=true
        · rw [if_pos c2]
          show Tb.addT _ _ _ _=_
          rw [addT_good _ _ _ _ c2.1 (by rw [hv];exact c2.2),hv,hd,Tb.put_put]
        · rw [if_neg c2]
          exact addT_bad _ _ _ _ (.inr (by rw [hv];exact c2))
def wordO (t u:Tb) (l:List Nat):Option S77:=cutsO (fun i=>t.val (l.take i)) (fun i=>u.val (l.drop i)) (l.length+1)
/-- The product's terms,word by word. -/
def prodO (t u:Tb) (ls:List (List Nat)):Option (List S79)→Option (List S79):=fun acc=>ls.foldl (fun acc l=>acc.bind fun q=>(wordO t u l).map fun s=>q ++ (if s.f0=0 then [] else [⟨encW l,s⟩])) acc
theorem prodO_none (t u:Tb) (ls:List (List Nat)):prodO t u ls none=none:=by
  induction ls with
  | nil=>rfl
  | cons l ls ih=>exact ih
theorem prodO_append (t u:Tb) (a b:List (List Nat)) (q:Option (List S79)):prodO t u (a ++ b) q=prodO t u b (prodO t u a q):=by unfold prodO;rw [List.foldl_append]
theorem prod_tab (t u p:Tb) (hp:Sz p.d p.n) (hd:t.d=p.d):∀ m,m≤(wordsD p.d p.n).length →
    match prodO t u ((wordsD p.d p.n).take m) (some []) with
    | some q=>Like (wordsT t u (zeroT p.d p.n) ((wordsD p.d p.n).take m)) p∧(wordsT t u (zeroT p.d p.n) ((wordsD p.d p.n).take m)).bad=false∧q=segT (wordsT t u (zeroT p.d p.n) ((wordsD p.d p.n).take m)) 0 m∧∀ i,m≤i→(wordsT t u (zeroT p.d p.n) ((wordsD p.d p.n).take m)).vs.getD i zeroF=zeroF
    | none=>(wordsT t u (zeroT p.d p.n) ((wordsD p.d p.n).take m)).bad=true:=by
  intro m
  induction m with
  | zero =>
    intro _
    simp only [List.take_zero]
    refine ⟨⟨rfl,rfl,zeroT_ok hp⟩,rfl,rfl,fun i _=>?_⟩
    show (List.replicate _ zeroF).getD i zeroF=zeroF
    rw [List.getD_eq_getElem?_getD,List.getElem?_replicate]
    split <;> rfl
  | succ m ih =>
    intro hm
    have hlt:m < (wordsD p.d p.n).length:=hm
    have ih:=ih (by omega)
    rw [List.take_succ_eq_append_getElem hlt,prodO_append]
    have eW:wordsT t u (zeroT p.d p.n) ((wordsD p.d p.n).take m ++ [(wordsD p.d p.n)[m]])=wordT t u (wordsT t u (zeroT p.d p.n) ((wordsD p.d p.n).take m)) (wordsD p.d p.n)[m]:=by unfold wordsT;rw [List.foldl_append];rfl
    rw [eW]
    obtain ⟨O,hO⟩:∃ O,O=wordsT t u (zeroT p.d p.n) ((wordsD p.d p.n).take m):=⟨_,rfl⟩
    obtain ⟨l,hl⟩:∃ l,l=(wordsD p.d p.n)[m]:=⟨_,rfl⟩
    rw [← hO] at ih ⊢
    rw [← hl]
    cases hq:prodO t u ((wordsD p.d p.n).take m) (some []) with
    | none =>
      rw [hq] at ih
      rw [prodO_none]
      exact wordT_bad _ _ _ _ ih
    | some q =>
      rw [hq] at ih
      obtain ⟨hlk,hb,hqs,hz⟩:=ih
      have hlD:isD p.d p.n l:=by rw [hl];exact (wordsD_mem _ _ _).1 (List.getElem_mem hlt)
      have hnum:numN p.d l=m:=by rw [hl];exact wordsD_at _ _ _ hlt
      have hOd:O.d=p.d:=hlk.1
      have hOn:O.n=p.n:=hlk.2.1
      have hkO:numN O.d l < O.vs.length:=by rw [hOd,hnum,hlk.2.2.len,hOd,hOn];exact hlt
      have hv:O.val l=zeroF:=by unfold Tb.val;rw [hOd,hnum];exact hz m (Nat.le_refl _)
      have hc:=cuts_tab t u O l hkO hv (l.length+1)
      show match ((some q).bind fun q=>(wordO t u l).map fun s=>q ++ (if s.f0=0 then [] else [⟨encW l,s⟩])) with|some q=>_|none=>_
      simp only [Option.bind_some]
      unfold wordT
      cases hw:wordO t u l with
      | none =>
        unfold wordO at hw
        rw [hw] at hc
        exact hc
      | some s =>
        have hsok:=cutsO_ok hw
        unfold wordO at hw
        rw [hw] at hc
        simp only [Option.map_some]
        simp only at hc
        rw [hc,hOd,hnum]
        have hkm:m < O.vs.length:=by rw [hOd,hnum] at hkO;exact hkO
        refine ⟨⟨hlk.1,hlk.2.1,hlk.2.2.put _ hsok⟩,hb,?_,fun i hi=>?_⟩
        · rw [seg_add _ 0 m 1,seg_one,Nat.zero_add]
          rw [seg_congr (t:=O.put m s) (u:=O) rfl rfl 0 m (fun i _ h2=>by rw [put_getD O m hkm,if_neg (by omega)]),← hqs]
          congr 1
          unfold termOf
          rw [put_getD O m hkm,if_pos rfl]
          have e4:(wordsA (O.put m s).d (O.put m s).n).getD m ByteArray.empty=encW l:=by
            show (wordsA O.d O.n).getD m ByteArray.empty=encW l
            rw [hOd,hOn]
            unfold wordsA
            rw [List.getD_eq_getElem?_getD,List.getElem?_map,List.getElem?_eq_getElem hlt,hl];rfl
          rw [e4]
          by_cases c:s.f0=0
          · rw [if_pos c,if_neg (by simpa using c)];rfl
          · rw [if_neg c,if_pos c];rfl
        · rw [put_getD O m hkm,if_neg (by omega)]
          exact hz i (by omega)
/-- What a partial list of terms says of a table. -/
def outT (t:Tb):Option (List S79):=if t.bad=true then none else some (termsT t)
theorem times_terms (t u p:Tb) (hp:Sz p.d p.n) (ht:Like t p) (hbt:t.bad=false) (hbu:u.bad=false):prodO t u (wordsD p.d p.n) (some [])=outT (timesT t u):=by
  have h:=prod_tab t u p hp ht.1 _ (Nat.le_refl _)
  rw [List.take_length] at h
  have e:timesT t u=wordsT t u (zeroT p.d p.n) (wordsD p.d p.n):=by
    unfold timesT badT zeroT
    rw [hbt,hbu,ht.1,ht.2.1];rfl
  unfold outT
  rw [e]
  cases hq:prodO t u (wordsD p.d p.n) (some []) with
  | none=>rw [hq] at h;rw [if_pos h]
  | some q =>
    rw [hq] at h
    obtain ⟨h1,h2,h3,_⟩:=h
    rw [if_neg (by rw [h2];simp),termsT_seg,h1.1,h1.2.1]
    rw [h3]
end Go.Proofs.Ytaiefdhenikiiaa.Base
namespace Go.Proofs.Ytaiefdhenikiiaa.Base
open Go.RowKit Go.Proofs.YtaiefdhenikiiaaW.PrintWords Go.Proofs.YtaiefdhenikiiaaW.PrintLast Go.Proofs.YtaiefdhenikiiaaW.PrintMore
set_option linter.unusedVariables false
set_option linter.unusedSimpArgs false
theorem plus_zero_r {a:S77} (h:okF a):plusM a zeroF=(a,true):=by
  have:=plus_zero h
  unfold plusM at this ⊢
  rw [← this]
  congr 1
  · rw [Int.add_comm]
  · rw [Int.mul_comm]
theorem times_comm (a b:S77):timesM a b=timesM b a:=by unfold timesM;rw [Int.mul_comm a.f0,Int.mul_comm a.f1]
theorem times_zero {k:S77} (hk:okF k):timesM zeroF k=(zeroF,true):=by
  obtain ⟨h1,_⟩:=hk
  have e1:zeroF.f0 * k.f0=0:=by show 0 * k.f0=0;omega
  have e2:zeroF.f1 * k.f1=k.f1:=by show 1 * k.f1=k.f1;omega
  have e3:byM 0 k.f1=k.f1:=by unfold byM;rw [if_neg (by omega),Int.gcd_zero_left];omega
  unfold timesM redM
  rw [e1,e2,e3,Int.zero_ediv,Int.ediv_self (by omega)]
  rfl
theorem times_ne {a k:S77} (ha:okF a) (hk:okF k) (h1:a.f0 ≠ 0) (h2:k.f0 ≠ 0):(timesM a k).1.f0 ≠ 0:=by
  have hd:a.f1 * k.f1 ≠ 0:=Int.mul_ne_zero (by have:=ha.1;omega) (by have:=hk.1;omega)
  have hn:a.f0 * k.f0 ≠ 0:=Int.mul_ne_zero h1 h2
  show (a.f0 * k.f0) / byM (a.f0 * k.f0) (a.f1 * k.f1) ≠ 0
  intro hc
  have:=Int.ediv_mul_cancel (by_dvd (a.f0 * k.f0) (a.f1 * k.f1)).1
  rw [hc,Int.zero_mul] at this
  exact hn this.symm
theorem fill_bad (P:Nat→S77 × Bool) (o:Tb) (n:Nat):(fillT P o n).bad=(o.bad || (List.range n).any fun i=>!(P i).2):=by
  induction n with
  | zero=>simp [fillT]
  | succ n ih =>
    rw [fillT_succ,List.range_succ,List.any_append]
    show ((fillT P o n).bad || !(P n).2)=_
    rw [ih];simp [Bool.or_assoc]
theorem fill_vals (P:Nat→S77 × Bool) (o:Tb) (n:Nat) (hn:n≤o.vs.length) (i:Nat):(fillT P o n).vs.getD i zeroF=if i < n then chkF (P i).1 (P i).2 else o.vs.getD i zeroF:=by
  induction n with
  | zero=>rfl
  | succ n ih =>
    have ih:=ih (by omega)
    have hl:=(fillT_dn P o n).2.2
    rw [fillT_succ]
    have e:((fillT P o n).putF n (P n)).vs.getD i zeroF=if i=n then chkF (P n).1 (P n).2 else (fillT P o n).vs.getD i zeroF:=put_getD ((fillT P o n).chk (P n).2) n (by show n < (fillT P o n).vs.length;omega) _ i
    rw [e,ih]
    by_cases c:i=n
    · subst c;rw [if_pos rfl,if_pos (by omega)]
    · rw [if_neg c]
      by_cases c2:i < n
      · rw [if_pos c2,if_pos (by omega)]
      · rw [if_neg c2,if_neg (by omega)]
/-- Terms put one by one. -/
def addL (x ys:List S79):Option (List S79):=ys.foldl (fun acc y=>acc.bind fun q=>putL q y.f0 y.f1) (some x)
theorem addL_append (x a b:List S79):addL x (a ++ b)=b.foldl (fun acc y=>acc.bind fun q=>putL q y.f0 y.f1) (addL x a):=by unfold addL;rw [List.foldl_append]
def addN (t u:Tb):Nat→Tb
  | 0=>t
  | m+1=>(addN t u m).put m (plusM (t.vs.getD m zeroF) (u.vs.getD m zeroF)).1
theorem addN_len (t u:Tb):∀ m,(addN t u m).vs.length=t.vs.length
  | 0=>rfl
  | m+1=>by show ((addN t u m).vs.set m _).length=_;rw [List.length_set];exact addN_len t u m
theorem addN_dn (t u:Tb):∀ m,(addN t u m).d=t.d∧(addN t u m).n=t.n∧(addN t u m).bad=t.bad
  | 0=>⟨rfl,rfl,rfl⟩
  | m+1=>addN_dn t u m
theorem addN_vals (t u:Tb):∀ m,m≤t.vs.length→∀ i,(addN t u m).vs.getD i zeroF=if i < m then (plusM (t.vs.getD i zeroF) (u.vs.getD i zeroF)).1 else t.vs.getD i zeroF
  | 0,_,i=>rfl
  | m+1,hm,i=>by
    have ih:=addN_vals t u m (by omega) i
    show ((addN t u m).put m _).vs.getD i zeroF=_
    rw [put_getD _ m (by rw [addN_len];omega),ih]
    by_cases c:i=m
    · subst c;rw [if_pos rfl,if_pos (by omega)]
    · rw [if_neg c]
      by_cases c2:i < m
      · rw [if_pos c2,if_pos (by omega)]
      · rw [if_neg c2,if_neg (by omega)]
def okN (t u:Tb) (m:Nat):Bool:=(List.range m).all fun i=>(plusM (t.vs.getD i zeroF) (u.vs.getD i zeroF)).2
theorem okF_at {t:Tb} (h:t.Ok) (i:Nat):okF (t.vs.getD i zeroF):=by
  rw [List.getD_eq_getElem?_getD]
  cases hx:t.vs[i]? with
  | none=>exact zero_okF
  | some x=>exact h.fr x (List.mem_of_getElem? hx)
theorem add_loop (t u p:Tb) (hp:Sz p.d p.n) (ht:Like t p) (hu:Like u p):∀ m,m≤(wordsD p.d p.n).length →
    (okN t u m=true→(addN t u m).Ok)∧addL (termsT t) (segT u 0 m)=if okN t u m=true then some (termsT (addN t u m)) else none:=by
  intro m
  induction m with
  | zero=>intro _;exact ⟨fun _=>ht.2.2,rfl⟩
  | succ m ih =>
    intro hm
    obtain ⟨ih1,ih2⟩:=ih (by omega)
    have hlt:m < (wordsD p.d p.n).length:=hm
    have htl:t.vs.length=(wordsD p.d p.n).length:=by rw [ht.2.2.len,ht.1,ht.2.1]
    have eok:okN t u (m+1)=(okN t u m && (plusM (t.vs.getD m zeroF) (u.vs.getD m zeroF)).2):=by unfold okN;rw [List.range_succ,List.all_append];simp
    have hd:(addN t u m).d=p.d:=(addN_dn t u m).1.trans ht.1
    have hn:(addN t u m).n=p.n:=(addN_dn t u m).2.1.trans ht.2.1
    obtain ⟨l,hl⟩:∃ l,l=(wordsD p.d p.n)[m]:=⟨_,rfl⟩
    have hlD:isD p.d p.n l:=by rw [hl];exact (wordsD_mem _ _ _).1 (List.getElem_mem hlt)
    have hnum:numN p.d l=m:=by rw [hl];exact wordsD_at _ _ _ hlt
    have hv:(addN t u m).vs.getD m zeroF=t.vs.getD m zeroF:=by rw [addN_vals t u m (by omega),if_neg (by omega)]
    rw [eok]
    refine ⟨fun h=>?_,?_⟩
    · rw [Bool.and_eq_true] at h
      exact (ih1 h.1).put m (plus_okF h.2)
    · rw [seg_add u 0 m 1,seg_one,Nat.zero_add,addL_append,ih2]
      by_cases ho:okN t u m=true
      · rw [if_pos ho,ho,Bool.true_and]
        have hO:=ih1 ho
        by_cases c:(u.vs.getD m zeroF).f0=0
        · have e1:termOf u m=none:=by unfold termOf;rw [if_neg (by simpa using c)]
          have e2:u.vs.getD m zeroF=zeroF:=okF_zero (okF_at hu.2.2 m) c
          rw [e1,e2,plus_zero_r (okF_at ht.2.2 m),if_pos rfl]
          show some _=some _
          have e3:addN t u (m+1)=addN t u m:=by
            show (addN t u m).put m _=_
            rw [e2,plus_zero_r (okF_at ht.2.2 m)]
            exact Tb.put_self (by rw [addN_len];omega) hv
          rw [e3]
        · have e1:termOf u m=some ⟨encW l,u.vs.getD m zeroF⟩:=by
            unfold termOf
            rw [if_pos c]
            have e4:(wordsA u.d u.n).getD m ByteArray.empty=encW l:=by
              rw [hu.1,hu.2.1]
              unfold wordsA
              rw [List.getD_eq_getElem?_getD,List.getElem?_map,List.getElem?_eq_getElem hlt,hl];rfl
            rw [e4]
          rw [e1]
          show putL (termsT (addN t u m)) (encW l) (u.vs.getD m zeroF)=_
          have e5:(addN t u m).val l=t.vs.getD m zeroF:=by unfold Tb.val;rw [hd,hnum];exact hv
          rw [putL_terms hO (by rw [hd,hn];exact hlD) (okF_at hu.2.2 m),e5,hd,hnum]
          rfl
      · rw [if_neg ho]
        have:okN t u m=false:=by simpa using ho
        rw [this,Bool.false_and,if_neg (by simp)]
        cases termOf u m <;> rfl
theorem Tb.ext' {t u:Tb} (h1:t.d=u.d) (h2:t.n=u.n) (h3:t.bad=u.bad) (h4:t.vs.length=u.vs.length) (h5:∀ i,i < t.vs.length→t.vs.getD i zeroF=u.vs.getD i zeroF):t=u:=by
  obtain ⟨d,n,vs,b⟩:=t
  obtain ⟨d',n',vs',b'⟩:=u
  simp only at h1 h2 h3 h4 h5
  subst h1 h2 h3
  congr 1
  apply List.ext_getElem h4
  intro i hi hi'
  have:=h5 i hi
  rwa [List.getD_eq_getElem?_getD,List.getD_eq_getElem?_getD,List.getElem?_eq_getElem hi,List.getElem?_eq_getElem hi',Option.getD_some,Option.getD_some] at this
theorem add_terms (t u p:Tb) (hp:Sz p.d p.n) (ht:Like t p) (hu:Like u p) (hbt:t.bad=false) (hbu:u.bad=false):addL (termsT t) (termsT u)=outT (sumT t u):=by
  obtain ⟨h1,h2⟩:=add_loop t u p hp ht hu _ (Nat.le_refl _)
  have htl:t.vs.length=(wordsD p.d p.n).length:=by rw [ht.2.2.len,ht.1,ht.2.1]
  have eb:(sumT t u).bad=!okN t u (wordsD p.d p.n).length:=by
    unfold sumT
    rw [fill_bad,htl]
    show ((t.bad || u.bad) || _)=_
    rw [hbt,hbu]
    unfold okN sumP
    simp [List.all_eq_not_any_not]
  rw [termsT_seg u,hu.1,hu.2.1,h2]
  unfold outT
  rw [eb]
  by_cases ho:okN t u (wordsD p.d p.n).length=true
  · rw [if_pos ho,ho,if_neg (by simp)]
    congr 2
    apply Tb.ext'
    · rw [(addN_dn t u _).1,(sumT_dn t u).1]
    · rw [(addN_dn t u _).2.1,(sumT_dn t u).2]
    · rw [(addN_dn t u _).2.2,hbt,eb,ho];rfl
    · rw [addN_len,(sumT_ok ht.2.2).len,ht.2.2.len,(sumT_dn t u).1,(sumT_dn t u).2]
    · intro i hi
      rw [addN_len,htl] at hi
      rw [addN_vals t u _ (by omega),if_pos hi]
      unfold sumT
      rw [fill_vals _ _ _ (by show _≤(List.replicate (wordsD t.d t.n).length zeroF).length;rw [List.length_replicate,← ht.2.2.len];exact Nat.le_refl _),if_pos (by omega)]
      unfold sumP chkF
      have:=List.all_eq_true.1 ho i (List.mem_range.2 hi)
      rw [if_pos this]
  · have:okN t u (wordsD p.d p.n).length=false:=by simpa using ho
    rw [if_neg ho,this,if_pos (by simp)]
/-- Terms times a number. -/
def scaleL (k:S77) (ys:List S79):Option (List S79):=ys.foldl (fun acc y=>acc.bind fun q=>if (timesM k y.f1).2=true then some (q ++ [⟨y.f0,(timesM k y.f1).1⟩]) else none) (some [])
def okS (u:Tb) (k:S77) (m:Nat):Bool:=(List.range m).all fun i=>(timesM (u.vs.getD i zeroF) k).2
theorem scale_vals {u:Tb} (hu:u.Ok) (k:S77) (i:Nat) (hi:i < u.vs.length):(scaleT u k).vs.getD i zeroF=chkF (timesM (u.vs.getD i zeroF) k).1 (timesM (u.vs.getD i zeroF) k).2:=by
  unfold scaleT
  rw [fill_vals _ _ _ (by show _≤(List.replicate (wordsD u.d u.n).length zeroF).length;rw [List.length_replicate,← hu.len];exact Nat.le_refl _),if_pos hi]
  rfl
theorem scale_loop (u:Tb) (hu:u.Ok) (k:S77) (hk:okF k) (h0:k.f0 ≠ 0):∀ m,m≤u.vs.length →
    scaleL k (segT u 0 m)=if okS u k m=true then some (segT (scaleT u k) 0 m) else none:=by
  intro m
  induction m with
  | zero=>intro _;rfl
  | succ m ih =>
    intro hm
    have ih:=ih (by omega)
    have eok:okS u k (m+1)=(okS u k m && (timesM (u.vs.getD m zeroF) k).2):=by unfold okS;rw [List.range_succ,List.all_append];simp
    rw [eok,seg_add u 0 m 1,seg_one,Nat.zero_add,seg_add _ 0 m 1,seg_one,Nat.zero_add]
    unfold scaleL at ih ⊢
    rw [List.foldl_append,ih]
    by_cases ho:okS u k m=true
    · rw [if_pos ho,ho,Bool.true_and]
      have hv:=scale_vals hu k m (by omega)
      have ew:∀ x,termOf (scaleT u k) m=x ↔ (if ((scaleT u k).vs.getD m zeroF).f0 ≠ 0 then some (⟨(wordsA u.d u.n).getD m ByteArray.empty,(scaleT u k).vs.getD m zeroF⟩:S79) else none)=x:=by
        intro x
        unfold termOf
        rw [(scaleT_dn u k).1,(scaleT_dn u k).2]
      by_cases c:(u.vs.getD m zeroF).f0=0
      · have e2:u.vs.getD m zeroF=zeroF:=okF_zero (okF_at hu m) c
        have e1:termOf u m=none:=by unfold termOf;rw [if_neg (by simpa using c)]
        rw [e2,times_zero hk] at hv
        have e3:termOf (scaleT u k) m=none:=(ew _).2 (by rw [hv];rfl)
        rw [e1,e2,times_zero hk,e3]
        simp
      · have e1:termOf u m=some ⟨(wordsA u.d u.n).getD m ByteArray.empty,u.vs.getD m zeroF⟩:=by unfold termOf;rw [if_pos c]
        rw [e1,times_comm (u.vs.getD m zeroF) k]
        simp only [Option.toList_some,List.foldl_cons,List.foldl_nil,Option.bind_some]
        by_cases c2:(timesM k (u.vs.getD m zeroF)).2=true
        · rw [if_pos c2,if_pos c2]
          rw [times_comm,c2] at hv
          have e3:termOf (scaleT u k) m=some ⟨(wordsA u.d u.n).getD m ByteArray.empty,(timesM k (u.vs.getD m zeroF)).1⟩:=(ew _).2 (by
            rw [hv]
            show (if (timesM k (u.vs.getD m zeroF)).1.f0 ≠ 0 then _ else _)=_
            rw [if_pos (by rw [times_comm];exact times_ne (okF_at hu m) hk c h0)];rfl)
          rw [e3];rfl
        · rw [if_neg c2,if_neg c2]
    · have:okS u k m=false:=by simpa using ho
      rw [if_neg ho,this,Bool.false_and,if_neg (by simp)]
      cases termOf u m <;> rfl
theorem scale_terms (u:Tb) (hu:u.Ok) (hb:u.bad=false) (k:S77) (hk:okF k) (h0:k.f0 ≠ 0):scaleL k (termsT u)=outT (scaleT u k):=by
  have h:=scale_loop u hu k hk h0 _ (Nat.le_refl _)
  have eb:(scaleT u k).bad=!okS u k u.vs.length:=by
    unfold scaleT
    rw [fill_bad]
    show (u.bad || _)=_
    rw [hb]
    unfold okS scaleP
    simp [List.all_eq_not_any_not]
  rw [termsT_seg u,← hu.len,h]
  unfold outT
  rw [eb,termsT_seg,(scaleT_dn u k).1,(scaleT_dn u k).2,← hu.len]
  by_cases ho:okS u k u.vs.length=true
  · rw [if_pos ho,ho,if_neg (by simp)]
  · have:okS u k u.vs.length=false:=by simpa using ho
    rw [if_neg ho,this,if_pos (by simp)]
theorem sumT_bad {t u:Tb} (h:t.bad=true ∨ u.bad=true):(sumT t u).bad=true:=by
  unfold sumT
  rw [fill_bad]
  show ((t.bad || u.bad) || _)=true
  rcases h with h|h <;> simp [h]
theorem scaleT_bad {t:Tb} (a:S77) (h:t.bad=true):(scaleT t a).bad=true:=by
  unfold scaleT
  rw [fill_bad]
  show (t.bad || _)=true
  simp [h]
theorem timesT_bad {t u:Tb} (h:t.bad=true ∨ u.bad=true):(timesT t u).bad=true:=by
  unfold timesT
  apply wordsT_bad
  show (t.bad || u.bad)=true
  rcases h with h|h <;> simp [h]
/-- x and k times y together. -/
def addSL (x y:List S79) (k:S77):Option (List S79):=(scaleL k y).bind fun s=>addL x s
theorem addS_terms (t u p:Tb) (hp:Sz p.d p.n) (ht:Like t p) (hu:Like u p) (hbt:t.bad=false) (hbu:u.bad=false) (k:S77) (hk:okF k) (h0:k.f0 ≠ 0):addSL (termsT t) (termsT u) k=outT (sumT t (scaleT u k)):=by
  unfold addSL
  rw [scale_terms u hu.2.2 hbu k hk h0]
  cases hb:(scaleT u k).bad with
  | true =>
    unfold outT
    rw [hb,if_pos rfl,if_pos (sumT_bad (.inr hb))];rfl
  | false =>
    have e:outT (scaleT u k)=some (termsT (scaleT u k)):=by unfold outT;rw [if_neg (by rw [hb];simp)]
    rw [e,Option.bind_some]
    exact add_terms t (scaleT u k) p hp ht (scaleT_like k hu) hbt hb
end Go.Proofs.Ytaiefdhenikiiaa.Base
namespace Go.Proofs.Ytaiefdhenikiiaa.Base
open Go.RowKit Go.Proofs.YtaiefdhenikiiaaW.PrintWords Go.Proofs.YtaiefdhenikiiaaW.PrintLast Go.Proofs.YtaiefdhenikiiaaW.PrintMore
set_option linter.unusedVariables false
set_option linter.unusedSimpArgs false
theorem letterT_good (d n:Nat) (l:List Nat):(letterT d n l).bad=false:=rfl
theorem commT_bad {t u:Tb} (h:(timesT t u).bad=true ∨ (timesT u t).bad=true):(commT t u).bad=true:=by
  unfold commT
  rcases h with h|h
  · exact sumT_bad (.inl h)
  · exact sumT_bad (.inr (scaleT_bad _ h))
theorem outT_good {t:Tb} (h:t.bad=false):outT t=some (termsT t):=by unfold outT;rw [if_neg (by rw [h];simp)]
theorem outT_bad {t:Tb} (h:t.bad=true):outT t=none:=by unfold outT;rw [if_pos h]
/-- The unit's terms. -/
theorem one_seg (t:Tb) (k:Nat) (hk:k < (wordsD t.d t.n).length) (hz:∀ i,i ≠ k→t.vs.getD i zeroF=zeroF):termsT t=(termOf t k).toList:=by
  rw [termsT_seg,seg_split t hk,seg_zero t 0 k (fun i _ h2=>by rw [hz i (by omega)];rfl),seg_zero t (k+1) _ (fun i h1 _=>by rw [hz i (by omega)];rfl)]
  simp
theorem zero_getD (d n i:Nat):(zeroT d n).vs.getD i zeroF=zeroF:=by
  show (List.replicate _ zeroF).getD i zeroF=zeroF
  rw [List.getD_eq_getElem?_getD,List.getElem?_replicate]
  split <;> rfl
theorem put_terms {d n:Nat} (hs:Sz d n) {l:List Nat} (hl:isD d n l) {a:S77} (h0:a.f0 ≠ 0):termsT ((zeroT d n).put (numN d l) a)=[⟨encW l,a⟩]:=by
  have hk:numN d l < (wordsD d n).length:=numN_lt _ _ _ hl
  have hkv:numN d l < (zeroT d n).vs.length:=by show _ < (List.replicate _ zeroF).length;rw [List.length_replicate];exact hk
  rw [one_seg _ (numN d l) hk (fun i hi=>by rw [put_getD _ _ hkv,if_neg hi,zero_getD])]
  have e4:(wordsA d n).getD (numN d l) ByteArray.empty=encW l:=by
    unfold wordsA
    rw [List.getD_eq_getElem?_getD,List.getElem?_map,wordsD_is _ _ _ hl];rfl
  unfold termOf
  rw [put_getD _ _ hkv,if_pos rfl,if_pos h0]
  show ([⟨(wordsA d n).getD (numN d l) ByteArray.empty,a⟩]:List S79)=_
  rw [e4]
theorem letter_terms {d n:Nat} (hs:Sz d n) {l:List Nat} (hl:isD d n l):termsT (letterT d n l)=[⟨encW l,oneF⟩]:=put_terms hs hl (by decide)
end Go.Proofs.Ytaiefdhenikiiaa.Base
namespace Go.Proofs.Ytaiefdhenikiiaa.Base
open Go.RowKit Go.Proofs.YtaiefdhenikiiaaW.PrintWords Go.Proofs.YtaiefdhenikiiaaW.PrintLast Go.Proofs.YtaiefdhenikiiaaW.PrintMore
set_option linter.unusedVariables false
set_option linter.unusedSimpArgs false
def negA (a:S77):S77:=⟨-a.f0,a.f1⟩
theorem byM_neg (num den:Int):byM (-num) den=byM num den:=by unfold byM;rw [Int.neg_gcd]
theorem okF_neg {a b:Int}:okF ⟨-a,b⟩ ↔ okF ⟨a,b⟩:=by
  unfold okF
  simp only [Int.neg_gcd]
  constructor <;> rintro ⟨h1,h2,h3,h4,h5⟩ <;> exact ⟨h1,h2,by omega,by omega,h5⟩
theorem negA_ok {a:S77} (h:okF a):okF (negA a):=okF_neg.2 h
theorem redM_neg (num den:Int):redM (-num) den=(negA (redM num den).1,(redM num den).2):=by
  unfold redM negA
  rw [byM_neg,Int.neg_ediv_of_dvd (by_dvd num den).1]
  simp only [Prod.mk.injEq,true_and]
  exact decide_eq_decide.2 okF_neg
theorem times_neg (v a:S77):timesM v (negA a)=(negA (timesM v a).1,(timesM v a).2):=by
  unfold timesM
  show redM (v.f0 * (-a.f0)) (v.f1 * a.f1)=_
  rw [Int.mul_neg,redM_neg]
theorem red_self {a:S77} (h:okF a):redM a.f0 a.f1=(a,true):=by
  obtain ⟨h1,h2,h3,h4,h5⟩:=h
  have e3:byM a.f0 a.f1=1:=by unfold byM;rw [if_neg (by omega),h5];rfl
  unfold redM
  rw [e3,Int.ediv_one,Int.ediv_one,decide_eq_true (show okF ⟨a.f0,a.f1⟩ from ⟨h1,h2,h3,h4,h5⟩)]
theorem one_times {a:S77} (h:okF a):timesM oneF a=(a,true):=by
  unfold timesM
  rw [show oneF.f0 * a.f0=a.f0 from Int.one_mul _,show oneF.f1 * a.f1=a.f1 from Int.one_mul _,red_self h]
theorem times_negF {a:S77} (h:okF a):timesM a negF=(negA a,true):=by
  have e:negF=negA oneF:=rfl
  rw [e,times_neg,times_comm,one_times h]
theorem plus_neg {a:S77} (h:okF a):plusM a (negA a)=(zeroF,true):=by
  unfold plusM
  have e1:a.f0 * (negA a).f1+(negA a).f0 * a.f1=0:=by show a.f0 * a.f1+-a.f0 * a.f1=0;rw [Int.neg_mul];omega
  rw [e1]
  have e2:a.f1 * (negA a).f1=a.f1 * a.f1:=rfl
  rw [e2]
  have hp:0 < a.f1 * a.f1:=Int.mul_pos (by have:=h.1;omega) (by have:=h.1;omega)
  obtain ⟨m,hm⟩:∃ m,m=a.f1 * a.f1:=⟨_,rfl⟩
  rw [← hm] at hp ⊢
  have e3:byM 0 m=m:=by unfold byM;rw [if_neg (by omega),Int.gcd_zero_left];omega
  unfold redM
  rw [e3,Int.zero_ediv,Int.ediv_self (by omega)]
  rfl
theorem sum_vals {t u:Tb} (ht:t.Ok) (i:Nat) (hi:i < t.vs.length):(sumT t u).vs.getD i zeroF=chkF (plusM (t.vs.getD i zeroF) (u.vs.getD i zeroF)).1 (plusM (t.vs.getD i zeroF) (u.vs.getD i zeroF)).2:=by
  unfold sumT
  rw [fill_vals _ _ _ (by show _≤(List.replicate (wordsD t.d t.n).length zeroF).length;rw [List.length_replicate,← ht.len];exact Nat.le_refl _),if_pos hi]
  rfl
theorem scale_neg {b:Tb} (hb:b.Ok) (a:S77):scaleT (scaleT b a) negF=scaleT b (negA a):=by
  have hl:(scaleT b a).vs.length=b.vs.length:=by rw [(scaleT_ok a hb).len,hb.len,(scaleT_dn b a).1,(scaleT_dn b a).2]
  have hl2:(scaleT b (negA a)).vs.length=b.vs.length:=by rw [(scaleT_ok _ hb).len,hb.len,(scaleT_dn b _).1,(scaleT_dn b _).2]
  have hl3:(scaleT (scaleT b a) negF).vs.length=b.vs.length:=by rw [(scaleT_ok _ (scaleT_ok a hb)).len,hb.len,(scaleT_dn _ _).1,(scaleT_dn _ _).2,(scaleT_dn _ _).1,(scaleT_dn _ _).2]
  have hv:∀ i,i < b.vs.length→timesM ((scaleT b a).vs.getD i zeroF) negF=(negA ((scaleT b a).vs.getD i zeroF),true):=fun i hi=>times_negF (okF_at (scaleT_ok a hb) i)
  have hbad:∀ (X:Tb) (k:S77),(scaleT X k).bad=(X.bad || (List.range X.vs.length).any fun i=>!(timesM (X.vs.getD i zeroF) k).2):=by
    intro X k
    unfold scaleT
    rw [fill_bad]
    rfl
  apply Tb.ext'
  · rw [(scaleT_dn _ _).1,(scaleT_dn _ _).1,(scaleT_dn _ _).1]
  · rw [(scaleT_dn _ _).2,(scaleT_dn _ _).2,(scaleT_dn _ _).2]
  · rw [hbad b (negA a)]
    have e:(scaleT (scaleT b a) negF).bad=(scaleT b a).bad:=by
      rw [hbad (scaleT b a) negF,hl]
      have:((List.range b.vs.length).any fun i=>!(timesM ((scaleT b a).vs.getD i zeroF) negF).2)=false:=by
        rw [List.any_eq_false]
        intro i hi
        rw [hv i (List.mem_range.1 hi)]
        simp
      rw [this,Bool.or_false]
    rw [e,hbad b a]
    congr 1
    congr 1
    funext i
    rw [times_neg]
  · rw [hl2,hl3]
  · intro i hi
    rw [hl3] at hi
    rw [scale_vals (scaleT_ok a hb) negF i (by omega),hv i hi,scale_vals hb (negA a) i hi,scale_vals hb a i hi,times_neg]
    unfold chkF
    dsimp only
    cases (timesM (b.vs.getD i zeroF) a).2 with
    | true=>rfl
    | false=>rfl
theorem lessN_irr:∀ l:List Nat,lessN l l=false
  | []=>rfl
  | x :: l=>by simp [lessN,lessN_irr l]
theorem lessN_app:∀ (a b x y:List Nat),a.length=x.length→lessN (a ++ b) (x ++ y)=true→lessN a x=true ∨ (a=x∧lessN b y=true)
  | [],b,[],y,_,h=>.inr ⟨rfl,h⟩
  | [],b,_ :: _,y,h,_=>by simp at h
  | _ :: _,b,[],y,h,_=>by simp at h
  | p :: a,b,q :: x,y,hl,h=>by
    simp only [List.cons_append,lessN,Bool.or_eq_true,decide_eq_true_eq,Bool.and_eq_true,beq_iff_eq] at h ⊢
    rcases h with h|⟨h1,h2⟩
    · exact .inl (.inl h)
    · rcases lessN_app a b x y (by simpa using hl) h2 with h3|⟨h3,h4⟩
      · exact .inl (.inr ⟨h1,h3⟩)
      · exact .inr ⟨by rw [h1,h3],h4⟩
theorem lessN_trans {d:Nat} {a b c:List Nat} (hab:a.length=b.length) (hbc:b.length=c.length) (ha:∀ x ∈ a,x < d) (hb:∀ x ∈ b,x < d) (hc:∀ x ∈ c,x < d) (h1:lessN a b=true) (h2:lessN b c=true):lessN a c=true:=by
  rw [less_val d a b hab ha hb] at h1
  rw [less_val d b c hbc hb hc] at h2
  rw [less_val d a c (hab.trans hbc) ha hc]
  omega
theorem wordsT_d (t u:Tb) (ls:List (List Nat)):∀ o:Tb,(wordsT t u o ls).d=o.d:=by
  have h1:∀ (o:Tb) l i,(cutT t u l o i).d=o.d:=by
    intro o l i
    unfold cutT
    split
    · rfl
    · rfl
  have h2:∀ (o:Tb) l n,(cutsT t u l o n).d=o.d:=by
    intro o l n
    induction n with
    | zero=>rfl
    | succ n ih=>rw [cutsT_succ,h1,ih]
  induction ls with
  | nil=>intro o;rfl
  | cons l ls ih=>intro o;show (wordsT t u (wordT t u o l) ls).d=_;rw [ih];exact h2 _ _ _
theorem wordsT_val (t u:Tb) (d:Nat):∀ (ls:List (List Nat)) (o:Tb),o.d=d→(∀ l ∈ ls,numN d l < o.vs.length)→(∀ l ∈ ls,o.vs.getD (numN d l) zeroF=zeroF)→ls.Pairwise (fun a b=>numN d a ≠ numN d b)→(wordsT t u o ls).bad=false →
    (∀ l ∈ ls,wordO t u l=some ((wordsT t u o ls).vs.getD (numN d l) zeroF))∧(∀ l,(∀ l' ∈ ls,numN d l' ≠ numN d l)→(wordsT t u o ls).vs.getD (numN d l) zeroF=o.vs.getD (numN d l) zeroF)
  | [],o,_,_,_,_,_=>⟨(fun l h=>absurd h (by simp)),(fun l _=>rfl)⟩
  | l :: ls,o,hd,hk,hz,hp,hb=>by
    have e:wordsT t u o (l :: ls)=wordsT t u (wordT t u o l) ls:=rfl
    have hc:=cuts_tab t u o l (by rw [hd];exact hk l List.mem_cons_self) (by unfold Tb.val;rw [hd];exact hz l List.mem_cons_self) (l.length+1)
    obtain ⟨hp1,hp2⟩:=List.pairwise_cons.1 hp
    cases hw:wordO t u l with
    | none =>
      exfalso
      have hw':cutsO (fun i=>t.val (l.take i)) (fun i=>u.val (l.drop i)) (l.length+1)=none:=hw
      rw [hw'] at hc
      have hc2:(wordT t u o l).bad=true:=hc
      rw [e,wordsT_bad t u ls _ hc2] at hb
      cases hb
    | some s =>
      have hw':cutsO (fun i=>t.val (l.take i)) (fun i=>u.val (l.drop i)) (l.length+1)=some s:=hw
      rw [hw'] at hc
      have hc':wordT t u o l=o.put (numN d l) s:=by rw [← hd];exact hc
      rw [e,hc'] at hb ⊢
      have hkl:=hk l List.mem_cons_self
      have hg:=put_getD o (numN d l) hkl s
      obtain ⟨i1,i2⟩:=wordsT_val t u d ls (o.put (numN d l) s) hd (fun l' h'=>by show _ < (o.vs.set _ _).length;rw [List.length_set];exact hk l' (List.mem_cons_of_mem _ h')) (fun l' h'=>by rw [hg,if_neg (fun hh=>hp1 l' h' hh.symm)];exact hz l' (List.mem_cons_of_mem _ h')) hp2 hb
      refine ⟨fun l' h'=>?_,fun l' h'=>?_⟩
      · rcases List.mem_cons.1 h' with rfl|h'
        · rw [hw,i2 l' (fun l2 h2 hh=>hp1 l2 h2 hh.symm),hg,if_pos rfl]
        · exact i1 l' h'
      · rw [i2 l' (fun l2 h2=>h' l2 (List.mem_cons_of_mem _ h2)),hg,if_neg (fun hh=>h' l List.mem_cons_self hh.symm)]
theorem wordsD_pair (d n:Nat):(wordsD d n).Pairwise (fun a b=>numN d a ≠ numN d b):=by
  rw [List.pairwise_iff_getElem]
  intro i j hi hj hlt
  rw [wordsD_at,wordsD_at]
  omega
theorem times_val {t u p:Tb} (hp:Sz p.d p.n) (ht:Like t p) (hb:(timesT t u).bad=false) {l:List Nat} (hl:isD p.d p.n l):wordO t u l=some ((timesT t u).val l):=by
  have htb:t.bad=false:=by
    cases h:t.bad with
    | false=>rfl
    | true=>rw [timesT_bad (Or.inl h)] at hb;cases hb
  have hub:u.bad=false:=by
    cases h:u.bad with
    | false=>rfl
    | true=>rw [timesT_bad (Or.inr h)] at hb;cases hb
  have e:timesT t u=wordsT t u (zeroT p.d p.n) (wordsD p.d p.n):=by unfold timesT;rw [htb,hub,ht.1,ht.2.1];rfl
  have hd:(timesT t u).d=p.d:=by rw [e,wordsT_d];rfl
  unfold Tb.val
  rw [hd]
  rw [e] at hb ⊢
  refine (wordsT_val t u p.d (wordsD p.d p.n) (zeroT p.d p.n) rfl (fun l h=>?_) (fun l _=>zero_getD _ _ _) (wordsD_pair _ _) hb).1 l ((wordsD_mem _ _ _).2 hl)
  rw [(zeroT_ok hp).len]
  exact numN_lt _ _ _ ((wordsD_mem _ _ _).1 h)
theorem cutsO_keep {A B:Nat→S77} {m:Nat} {s:S77} (h:cutsO A B m=some s):∀ k,(∀ i,m≤i→i < m+k→(A i).f0=0 ∨ (B i).f0=0)→cutsO A B (m+k)=some s
  | 0,_=>h
  | k+1,hz=>by
    show (cutsO A B (m+k)).bind _=_
    rw [cutsO_keep h k (fun i h1 h2=>hz i h1 (by omega)),Option.bind_some]
    exact if_pos (hz (m+k) (by omega) (by omega))
theorem cutsO_zero {A B:Nat→S77} {n:Nat} (hz:∀ i,i < n→(A i).f0=0 ∨ (B i).f0=0):cutsO A B n=some zeroF:=by
  have:=cutsO_keep (A:=A) (B:=B) (m:=0) (s:=zeroF) rfl n (fun i _ h2=>hz i (by omega))
  rwa [Nat.zero_add] at this
theorem cutsO_one {A B:Nat→S77} {n j:Nat} (hj:j < n) (hA:A j=oneF) (hB:B j=oneF) (hz:∀ i,i < n→i ≠ j→(A i).f0=0 ∨ (B i).f0=0):cutsO A B n=some oneF:=by
  have h1:cutsO A B j=some zeroF:=cutsO_zero (fun i hi=>hz i (by omega) (by omega))
  have h2:cutsO A B (j+1)=some oneF:=by
    show (cutsO A B j).bind _=_
    rw [h1,Option.bind_some,hA,hB]
    unfold cutO
    rw [if_neg (by decide),if_pos (by decide)]
    congr 1
  have:=cutsO_keep h2 (n - (j+1)) (fun i h3 h4=>hz i (by omega) (by omega))
  rwa [show j+1+(n - (j+1))=n by omega] at this
def triT (t:Tb) (l:List Nat):Prop:=t.val l=oneF∧∀ l',isD t.d t.n l'→(l'.length ≠ l.length ∨ lessN l' l=true)→t.val l'=zeroF
theorem letter_tri {d n:Nat} (hs:Sz d n) {l:List Nat} (hl:isD d n l):triT (letterT d n l) l:=by
  have hk:numN d l < (zeroT d n).vs.length:=by rw [(zeroT_ok hs).len];exact numN_lt _ _ _ hl
  have hv:∀ l',(letterT d n l).val l'=if numN d l'=numN d l then oneF else zeroF:=by
    intro l'
    unfold Tb.val letterT
    show (((zeroT d n).put (numN d l) oneF).vs.getD (numN d l') zeroF)=_
    rw [put_getD _ _ hk,zero_getD]
  refine ⟨by rw [hv,if_pos rfl],fun l' h1 h2=>?_⟩
  rw [hv,if_neg]
  intro hh
  have:=numN_inj d l' l h1.2 hl.2 hh
  subst this
  rcases h2 with h2|h2
  · exact h2 rfl
  · rw [lessN_irr] at h2;cases h2
theorem prod_zero {t u p:Tb} (hp:Sz p.d p.n) (ht:Like t p) (hu:Like u p) {x y:List Nat} (hx:triT t x) (hy:triT u y) (hb:(timesT t u).bad=false) {z:List Nat} (hz:isD p.d p.n z) (h:z.length ≠ x.length+y.length ∨ lessN z (x ++ y)=true):(timesT t u).val z=zeroF:=by
  have e:=times_val hp ht hb hz
  have h0:wordO t u z=some zeroF:=by
    refine cutsO_zero fun i hi=>?_
    have hD1:isD t.d t.n (z.take i):=by rw [ht.1,ht.2.1];exact isD_take hz i
    have hD2:isD u.d u.n (z.drop i):=by rw [hu.1,hu.2.1];exact isD_drop hz i
    by_cases c:i=x.length
    · by_cases c2:z.length=x.length+y.length
      · have h3:lessN z (x ++ y)=true:=by rcases h with h|h;exact absurd c2 h;exact h
        rw [← List.take_append_drop i z] at h3
        rcases lessN_app _ _ _ _ (by rw [List.length_take];omega) h3 with h4|⟨_,h4⟩
        · left;show (t.val (z.take i)).f0=0;rw [hx.2 _ hD1 (.inr h4)];rfl
        · right;show (u.val (z.drop i)).f0=0;rw [hy.2 _ hD2 (.inr h4)];rfl
      · right;show (u.val (z.drop i)).f0=0;rw [hy.2 _ hD2 (.inl (by rw [List.length_drop];omega))];rfl
    · left;show (t.val (z.take i)).f0=0;rw [hx.2 _ hD1 (.inl (by rw [List.length_take];omega))];rfl
  rw [h0] at e
  exact (Option.some.inj e).symm
theorem prod_one {t u p:Tb} (hp:Sz p.d p.n) (ht:Like t p) (hu:Like u p) {x y:List Nat} (hx:triT t x) (hy:triT u y) (hb:(timesT t u).bad=false) (hz:isD p.d p.n (x ++ y)):(timesT t u).val (x ++ y)=oneF:=by
  have e:=times_val hp ht hb hz
  have h0:wordO t u (x ++ y)=some oneF:=by
    refine cutsO_one (j:=x.length) (by rw [List.length_append];omega) ?_ ?_ (fun i hi hne=>?_)
    · show t.val ((x ++ y).take x.length)=oneF
      rw [List.take_left];exact hx.1
    · show u.val ((x ++ y).drop x.length)=oneF
      rw [List.drop_left];exact hy.1
    · left
      show (t.val ((x ++ y).take i)).f0=0
      rw [hx.2 _ (by rw [ht.1,ht.2.1];exact isD_take hz i) (.inl (by rw [List.length_take];omega))];rfl
  rw [h0] at e
  exact (Option.some.inj e).symm
theorem comm_tri {t u p:Tb} (hp:Sz p.d p.n) (ht:Like t p) (hu:Like u p) {x y:List Nat} (hx:triT t x) (hy:triT u y) (hb:(commT t u).bad=false) (hz:isD p.d p.n (x ++ y)) (hl:lessN (x ++ y) (y ++ x)=true):triT (commT t u) (x ++ y):=by
  have b1:(timesT t u).bad=false:=by
    cases h:(timesT t u).bad with
    | false=>rfl
    | true=>rw [commT_bad (.inl h)] at hb;cases hb
  have b2:(timesT u t).bad=false:=by
    cases h:(timesT u t).bad with
    | false=>rfl
    | true=>rw [commT_bad (.inr h)] at hb;cases hb
  have l1:Like (timesT t u) p:=timesT_like' ht
  have l2:Like (timesT u t) p:=timesT_like' hu
  have hC:Like (commT t u) p:=commT_like ht
  have hval:∀ z,isD p.d p.n z→(timesT u t).val z=zeroF→(commT t u).val z=(timesT t u).val z:=by
    intro z hz h0
    have hlt:numN p.d z < (wordsD p.d p.n).length:=numN_lt _ _ _ hz
    unfold Tb.val at h0 ⊢
    rw [l2.1] at h0
    rw [hC.1,l1.1]
    show (sumT (timesT t u) (scaleT (timesT u t) negF)).vs.getD (numN p.d z) zeroF=_
    rw [sum_vals l1.2.2 _ (by rw [l1.2.2.len,l1.1,l1.2.1];exact hlt),scale_vals l2.2.2 _ _ (by rw [l2.2.2.len,l2.1,l2.2.1];exact hlt),h0,times_zero neg_okF]
    unfold chkF
    simp only [if_true]
    rw [plus_zero_r (okF_at l1.2.2 _)]
    simp
  have hyx:isD p.d p.n (y ++ x):=⟨by have:=hz.1;simp only [List.length_append] at this ⊢;omega,fun q hq=>hz.2 q (by simp only [List.mem_append] at hq ⊢;exact hq.symm)⟩
  refine ⟨?_,fun z h1 h2=>?_⟩
  · rw [hval _ hz (prod_zero hp hu ht hy hx b2 hz (.inr hl))]
    exact prod_one hp ht hu hx hy b1 hz
  · rw [hC.1,hC.2.1] at h1
    have h0:(timesT u t).val z=zeroF:=by
      refine prod_zero hp hu ht hy hx b2 h1 ?_
      by_cases c:z.length=y.length+x.length
      · right
        have h3:lessN z (x ++ y)=true:=by
          rcases h2 with h2|h2
          · exact absurd (by rw [List.length_append];omega) h2
          · exact h2
        exact lessN_trans (d:=p.d) (by rw [List.length_append];omega) (by simp only [List.length_append];omega) h1.2 hz.2 hyx.2 h3 hl
      · exact .inl c
    rw [hval _ h1 h0]
    refine prod_zero hp ht hu hx hy b1 h1 ?_
    rcases h2 with h2|h2
    · left;rwa [List.length_append] at h2
    · exact .inr h2
/-- What the cut of a Lyndon word is,of all words of at most 5 of 3 letters. -/
def cutOk (l:List Nat):Bool:=!(lynN l && decide (2≤l.length)) || (lynN (l.take (cutI l)) && lynN (l.drop (cutI l)) && lessN l (l.drop (cutI l) ++ l.take (cutI l)))
theorem cutOk_all:(wordsD 3 5).all cutOk=true:=by kernel_rfl
theorem cut_good {d n:Nat} (hd:d≤3) (hn:n≤5) {l:List Nat} (hl:isD d n l) (h:lynN l=true) (h2:2≤l.length):lynN (l.take (cutI l))=true∧lynN (l.drop (cutI l))=true∧lessN l (l.drop (cutI l) ++ l.take (cutI l))=true:=by
  have hm:l ∈ wordsD 3 5:=(wordsD_mem _ _ _).2 ⟨by have:=hl.1;omega,fun x hx=>by have:=hl.2 x hx;omega⟩
  have:=List.all_eq_true.1 cutOk_all l hm
  unfold cutOk at this
  rw [h,decide_eq_true h2] at this
  simp only [Bool.and_self,Bool.not_true,Bool.false_or,Bool.and_eq_true] at this
  exact ⟨this.1.1,this.1.2,this.2⟩
theorem bracketN_tri {d n:Nat} (hs:Sz d n) (hn:n≤5):∀ (m:Nat) (l:List Nat),isD d n l→lynN l=true→l.length≤m+1→(bracketN d n m l).bad=false→triT (bracketN d n m l) l
  | 0,l,hl,_,_,_=>letter_tri hs hl
  | m+1,l,hl,hy,hm,hb=>by
    by_cases c:l.length=1
    · unfold bracketN;rw [if_pos c];exact letter_tri hs hl
    · have h1:=lynN_pos hy
      have h2:2≤l.length:=by omega
      obtain ⟨g1,g2,g3⟩:=cut_good hs.d3 hn hl hy h2
      have hc:=cutI_lt h2
      unfold bracketN at hb ⊢
      rw [if_neg c] at hb ⊢
      have b1:(bracketN d n m (l.take (cutI l))).bad=false:=by
        cases h:(bracketN d n m (l.take (cutI l))).bad with
        | false=>rfl
        | true=>rw [commT_bad (.inl (timesT_bad (.inl h)))] at hb;cases hb
      have b2:(bracketN d n m (l.drop (cutI l))).bad=false:=by
        cases h:(bracketN d n m (l.drop (cutI l))).bad with
        | false=>rfl
        | true=>rw [commT_bad (.inl (timesT_bad (.inr h)))] at hb;cases hb
      have i1:=bracketN_tri hs hn m _ (isD_take hl _) g1 (by rw [List.length_take];omega) b1
      have i2:=bracketN_tri hs hn m _ (isD_drop hl _) g2 (by rw [List.length_drop];omega) b2
      have e:=List.take_append_drop (cutI l) l
      have:=comm_tri (p:=zeroT d n) hs (bracketN_like hs m _) (bracketN_like hs m _) i1 i2 hb (by rw [e];exact hl) (by rw [e];exact g3)
      rwa [e] at this
theorem bracketT_tri {d n:Nat} (hs:Sz d n) (hn:n≤5) {l:List Nat} (hl:isD d n l) (hy:lynN l=true) (hb:(bracketT d n l).bad=false):triT (bracketT d n l) l:=bracketN_tri hs hn 8 l hl hy (by have:=hl.1;omega) hb
end Go.Proofs.Ytaiefdhenikiiaa.Base
namespace Go.Proofs.Ytaiefdhenikiiaa.Base
open Go.RowKit Go.Proofs.YtaiefdhenikiiaaW.PrintWords Go.Proofs.YtaiefdhenikiiaaW.PrintLast Go.Proofs.YtaiefdhenikiiaaW.PrintMore
set_option linter.unusedVariables false
set_option linter.unusedSimpArgs false
theorem sw2 (d:Nat) (hd:d≤3) (x1:Int) (ws:List ByteArray) (hws:∀ w ∈ ws,w.size≤20) (j:Nat) (hj:j < ws.length) (r:List ByteArray) (m:Nat):∀ (i:Nat) (acc:List ByteArray),i+m=d →
    acc.length+m≤8796093022208 →
    Ev (fun k=>qp_.l1 k (d:Int) x1 ws (acc ++ (List.range' i m).map (fun q=>ws.getD j ByteArray.empty ++ ltr q)) (wrap64 ((j:Int)+1))) r →
    Ev (fun k=>qp_.l2 k (d:Int) x1 ws acc (j:Int) (i:Int)) r:=by
  induction m with
  | zero =>
    intro i acc hi _ h
    refine Ev.step (fun k=>?_) h
    simp only [qp_.l2]
    rw [if_neg (by omega)]
    simp
  | succ m ih =>
    intro i acc hi hb h
    have hw:(ws.getD j ByteArray.empty).size≤20:=by
      rw [List.getD_eq_getElem?_getD,List.getElem?_eq_getElem hj]
      exact hws _ (List.getElem_mem hj)
    refine Ev.step (fun k=>?_) (ih (i+1) (acc ++ [ws.getD j ByteArray.empty ++ ltr i]) (by omega) (by simp;omega) ?_)
    · simp only [qp_.l2]
      have e1:wrap64 (48+(i:Int)) % 256=((48+i:Nat):Int):=by unfold wrap64;omega
      have e2:wrap64 ((i:Int)+1)=((i+1:Nat):Int):=by unfold wrap64;omega
      rw [if_pos (by omega),if_pos (by omega),if_pos (by omega)]
      simp only [Option.bind_some,e1,e2]
      have e3:rdOf ByteArray.empty ws (j:Int)=ws.getD j ByteArray.empty:=by simp [rdOf]
      rw [e3]
      have:=ltr_size i
      rw [if_pos (by show _+(ltr i).size≤_;omega),if_pos (by omega)]
      rfl
    · rw [List.append_assoc,List.range'_succ] at *
      exact h
theorem sw1 (d:Nat) (hd:d≤3) (x1:Int) (ws:List ByteArray) (hws:∀ w ∈ ws,w.size≤20) (hl:ws.length≤3486784401) (r:List ByteArray) (m:Nat):∀ (j:Nat) (acc:List ByteArray),j+m=ws.length →
    acc.length+m * d≤8796093022208 →
    Ev (fun k=>qp_.l0 k (d:Int) (wrap64 (x1 - 1)) (acc ++ nextW d (ws.drop j))) r →
    Ev (fun k=>qp_.l1 k (d:Int) x1 ws acc (j:Int)) r:=by
  induction m with
  | zero =>
    intro j acc hj _ h
    refine Ev.step (fun k=>?_) h
    simp only [qp_.l1]
    rw [if_neg (by omega),List.drop_eq_nil_of_le (by omega)]
    simp [nextW]
  | succ m ih =>
    intro j acc hj hb h
    have hlt:j < ws.length:=by omega
    have e2:wrap64 ((j:Int)+1)=((j+1:Nat):Int):=by unfold wrap64;omega
    rw [Nat.add_mul] at hb
    have h2:=sw2 d hd x1 ws hws j hlt r d 0 acc (by omega) (by omega) (by
      rw [e2]
      refine ih (j+1) _ (by omega) (by simp;omega) ?_
      rw [List.append_assoc]
      have:List.map (fun q=>ws.getD j ByteArray.empty ++ ltr q) (List.range' 0 d) ++ nextW d (ws.drop (j+1))=nextW d (ws.drop j):=by
        rw [List.drop_eq_getElem_cons hlt]
        simp only [nextW,List.flatMap_cons,List.range_eq_range']
        rw [List.getD_eq_getElem?_getD,List.getElem?_eq_getElem hlt];rfl
      rw [this]
      exact h)
    refine Ev.step (fun k=>?_) h2
    simp only [qp_.l1]
    rw [if_pos (by omega)]
    rfl
theorem sw0 (d:Nat) (hd:d≤3) (n:Nat):∀ m:Nat,m+n≤20→Ev (fun k=>qp_.l0 k (d:Int) (n:Int) (wordsL d m)) (wordsL d (m+n)):=by
  induction n with
  | zero =>
    intro m _
    refine Ev.step (f:=fun _=>some (wordsL d m)) (fun k=>?_) (Ev.now _)
    simp only [qp_.l0]
    rw [if_neg (by omega)]
  | succ n ih =>
    intro m hm
    have hb:=wordsL_bound (d:=d) (n:=m) hd (by omega)
    have h1:=sw1 d hd ((n+1:Nat):Int) (wordsL d m) (fun w hw=>by rw [wordsL_size d m w hw];omega) hb (wordsL d (m+(n+1))) (wordsL d m).length 0 [] (by omega)
      (by have:(wordsL d m).length * d≤(wordsL d m).length * 3:=Nat.mul_le_mul_left _ hd
          simp;omega) (by
      have e:wrap64 (((n+1:Nat):Int) - 1)=(n:Int):=by unfold wrap64;omega
      rw [e]
      have:=ih (m+1) (by omega)
      simp only [List.nil_append,List.drop_zero]
      rw [show m+1+n=m+(n+1) by omega] at this
      exact this)
    refine Ev.step (fun k=>?_) h1
    simp only [qp_.l0]
    rw [if_pos (by omega)]
    rfl
/-- The reference's words. -/
theorem spec_words (d n:Nat) (hd:d≤3) (hn:n≤20):Ev (fun k=>qp_.f k (d:Int) (n:Int)) (wordsL d n):=by
  have:=sw0 d hd n 0 (by omega)
  rw [Nat.zero_add] at this
  exact this
/-- All words of less than n letters. -/
def wordsU (d:Nat):Nat→List (List Nat)
  | 0=>[]
  | n+1=>wordsU d n ++ wordsN d n
theorem wordsU_D (d:Nat):∀ n,wordsU d (n+1)=wordsD d n
  | 0=>rfl
  | n+1=>by show wordsU d (n+1) ++ wordsN d (n+1)=wordsD d n ++ wordsN d (n+1);rw [wordsU_D d n]
theorem wordsU_le (d:Nat) {a b:Nat} (h:a≤b):∃ r,wordsU d b=wordsU d a ++ r:=by
  induction h with
  | refl=>exact ⟨[],by simp⟩
  | step _ ih =>
    obtain ⟨r,hr⟩:=ih
    exact ⟨r ++ wordsN d _,by show wordsU d _ ++ wordsN d _=_;rw [hr,List.append_assoc]⟩
theorem wordsN_isD {d n m:Nat} (h:m≤n) {l:List Nat} (hl:l ∈ wordsN d m):isD d n l:=by
  obtain ⟨h1,h2⟩:=wordsN_lt d m l hl
  exact ⟨by omega,h2⟩
theorem wordsN_small (d m:Nat) (hd:d≤3) (hm:m≤8):(wordsN d m).length≤6561:=by
  rw [wordsN_len]
  have h1:d ^ m≤3 ^ m:=Nat.pow_le_pow_left hd m
  have h2:3 ^ m≤3 ^ 8:=Nat.pow_le_pow_right (by omega) hm
  omega
theorem prodO_len (t u:Tb) (ls:List (List Nat)):∀ (q r:List S79),prodO t u ls (some q)=some r→r.length≤q.length+ls.length:=by
  induction ls with
  | nil=>intro q r h;obtain rfl:=Option.some.inj h;simp
  | cons l ls ih =>
    intro q r h
    have h:prodO t u ls ((wordO t u l).map fun s=>q ++ (if s.f0=0 then [] else [⟨encW l,s⟩]))=some r:=h
    cases hw:wordO t u l with
    | none=>rw [hw,Option.map_none,prodO_none] at h;cases h
    | some s =>
      rw [hw,Option.map_some] at h
      have:=ih _ _ h
      rw [List.length_append] at this
      have h2:(if s.f0=0 then ([]:List S79) else [⟨encW l,s⟩]).length≤1:=by split <;> simp
      rw [List.length_cons];omega
theorem prodO_snoc (t u:Tb) (a:List (List Nat)) (l:List Nat) {q:List S79} (h:prodO t u a (some [])=some q) {s:S77} (hs:wordO t u l=some s) :
    prodO t u (a ++ [l]) (some [])=some (q ++ (if s.f0=0 then [] else [⟨encW l,s⟩])):=by
  rw [prodO_append,h]
  show (wordO t u l).map _=_
  rw [hs];rfl
theorem prodO_fail (t u:Tb) (a b:List (List Nat)) (l:List Nat) (hs:wordO t u l=none):prodO t u (a ++ l :: b) (some [])=none:=by
  rw [prodO_append]
  cases prodO t u a (some []) with
  | none=>exact prodO_none _ _ _
  | some q =>
    show prodO t u b ((wordO t u l).map _)=none
    rw [hs];exact prodO_none _ _ _
theorem cutsO_fail {A B:Nat→S77} {j n:Nat} (h:j≤n) (hn:cutsO A B j=none):cutsO A B n=none:=by
  induction h with
  | refl=>exact hn
  | step _ ih=>show (cutsO A B _).bind _=none;rw [ih];rfl
theorem splus_bad (s:S77):Ev (fun k=>qs2_.f k s.f0 s.f1 0 0) (0,0,false):=by
  have e1:wrap64 (s.f1 * 0)=0:=by rw [Int.mul_zero];exact w64 (by omega) (by omega)
  refine Ev.congr (fun k=>?_) (Ev.now ((0:Int),(0:Int),false))
  unfold qs2_.f
  rw [e1]
  unfold qn1_.f
  rw [if_pos rfl];rfl
end Go.Proofs.Ytaiefdhenikiiaa.Base
namespace Go.Proofs.Ytaiefdhenikiiaa.Base
open Go.RowKit Go.Proofs.YtaiefdhenikiiaaW.PrintWords Go.Proofs.YtaiefdhenikiiaaW.PrintLast Go.Proofs.YtaiefdhenikiiaaW.PrintMore
set_option linter.unusedVariables false
set_option linter.unusedSimpArgs false
def tellL:Option (List S79)→List S79 × Bool
  | some r=>(r,true)
  | none=>([],false)
def okL (l:List S79):Prop:=∀ x ∈ l,okF x.f1
theorem okL_nil:okL []:=fun x hx=>by cases hx
theorem okL_snoc {l:List S79} {x:S79} (h:okL l) (hx:okF x.f1):okL (l ++ [x]):=fun y hy=>by
  rcases List.mem_append.1 hy with h1|h1
  · exact h y h1
  · obtain rfl:=List.mem_singleton.1 h1;exact hx
theorem putL_ok {l r:List S79} {w:ByteArray} {a:S77} (hl:okL l) (ha:okF a) (h:putL l w a=some r):okL r∧r.length≤l.length+1:=by
  have one:∀ b:S77,okF b→okL (if b.f0=0 then [] else [⟨w,b⟩])∧(if b.f0=0 then ([]:List S79) else [⟨w,b⟩]).length≤1:=fun b hb=>by
    split
    · exact ⟨okL_nil,by simp⟩
    · exact ⟨fun y hy=>by obtain rfl:=List.mem_singleton.1 hy;exact hb,by simp⟩
  have all:∀ (i j:Nat) (b:S77),okF b→i≤j→okL (l.take i ++ (if b.f0=0 then [] else [⟨w,b⟩]) ++ l.drop j)∧(l.take i ++ (if b.f0=0 then ([]:List S79) else [⟨w,b⟩]) ++ l.drop j).length≤l.length+1:=fun i j b hb hij=>by
    obtain ⟨o1,o2⟩:=one b hb
    refine ⟨fun y hy=>?_,?_⟩
    · rcases List.mem_append.1 hy with h1|h1
      · rcases List.mem_append.1 h1 with h2|h2
        · exact hl y (List.mem_of_mem_take h2)
        · exact o1 y h2
      · exact hl y (List.mem_of_mem_drop h1)
    · rw [List.length_append,List.length_append,List.length_take,List.length_drop];omega
  unfold putL at h
  cases hy:l[putAt l w]? with
  | none =>
    rw [hy] at h
    obtain rfl:=Option.some.inj h
    exact all _ _ a ha (Nat.le_refl _)
  | some y =>
    rw [hy] at h
    simp only at h
    split at h
    · split at h
      · next c =>
        obtain rfl:=Option.some.inj h
        exact all _ _ _ (plus_okF c) (Nat.le_succ _)
      · cases h
    · obtain rfl:=Option.some.inj h
      exact all _ _ a ha (Nat.le_refl _)
theorem scaleL_step {k:S77} {y:List S79} {i:Nat} (h:i < y.length):scaleL k (y.take (i+1))=(scaleL k (y.take i)).bind fun q=>if (timesM k y[i].f1).2=true then some (q ++ [⟨y[i].f0,(timesM k y[i].f1).1⟩]) else none:=by
  unfold scaleL
  rw [List.take_succ_eq_append_getElem h,List.foldl_append];rfl
theorem scaleL_none (k:S77) (a b:List S79) (h:scaleL k a=none):scaleL k (a ++ b)=none:=by
  unfold scaleL at h ⊢
  rw [List.foldl_append,h]
  induction b with
  | nil=>rfl
  | cons x b ih=>exact ih
theorem scaleL_ok {k:S77} (y:List S79):∀ i,i≤y.length→∀ q,scaleL k (y.take i)=some q→okL q∧q.length=i:=by
  intro i
  induction i with
  | zero=>intro _ q h;rw [List.take_zero] at h;obtain rfl:=Option.some.inj h;exact ⟨okL_nil,rfl⟩
  | succ i ih =>
    intro hi q h
    rw [scaleL_step (by omega)] at h
    cases hq:scaleL k (y.take i) with
    | none=>rw [hq] at h;cases h
    | some p =>
      rw [hq] at h
      obtain ⟨h1,h2⟩:=ih (by omega) p hq
      simp only [Option.bind_some] at h
      split at h
      · next c =>
        obtain rfl:=Option.some.inj h
        exact ⟨okL_snoc h1 (times_okF c),by rw [List.length_append,List.length_singleton];omega⟩
      · cases h
theorem addL_step {x s:List S79} {i:Nat} (h:i < s.length):addL x (s.take (i+1))=(addL x (s.take i)).bind fun q=>putL q s[i].f0 s[i].f1:=by
  unfold addL
  rw [List.take_succ_eq_append_getElem h,List.foldl_append];rfl
theorem addL_none (x a b:List S79) (h:addL x a=none):addL x (a ++ b)=none:=by
  unfold addL at h ⊢
  rw [List.foldl_append,h]
  induction b with
  | nil=>rfl
  | cons y b ih=>exact ih
theorem addL_ok {x s:List S79} (hx:okL x) (hs:okL s):∀ i,i≤s.length→∀ q,addL x (s.take i)=some q→okL q∧q.length≤x.length+i:=by
  intro i
  induction i with
  | zero=>intro _ q h;rw [List.take_zero] at h;obtain rfl:=Option.some.inj h;exact ⟨hx,Nat.le_refl _⟩
  | succ i ih =>
    intro hi q h
    rw [addL_step (by omega)] at h
    cases hq:addL x (s.take i) with
    | none=>rw [hq] at h;cases h
    | some p =>
      rw [hq] at h
      obtain ⟨h1,h2⟩:=ih (by omega) p hq
      obtain ⟨h3,h4⟩:=putL_ok h1 (hs _ (List.getElem_mem (by omega))) h
      exact ⟨h3,by omega⟩
end Go.Proofs.Ytaiefdhenikiiaa.Base
namespace Go.Proofs.Ytaiefdhenikiiaa.Base
open Go.RowKit Go.Proofs.YtaiefdhenikiiaaW.PrintWords Go.Proofs.YtaiefdhenikiiaaW.PrintLast Go.Proofs.YtaiefdhenikiiaaW.PrintMore
set_option linter.unusedVariables false
set_option linter.unusedSimpArgs false
/-- A series and a word of whether all fits are handed back. -/
def OkRes (w:World) (d n:Int) (l:List S79) (b:Bool) (e:Ending) (w':World):Prop:=∃ v:Value,e=.returned (.tuple #[.agg #[.int .i64 d,.int .i64 n,v],.bool b])∧TermsR w' w.heap.size v l∧Below w.heap.size w w'
/-- The terms of a table,if it is not bad. -/
def OutR (w:World) (d n:Int) (o:Option (List S79)):Ending→World→Prop:=match o with
  | none=>OkRes w 0 0 [] false
  | some l=>OkRes w d n l true
/-- Terms in memory. -/
structure TmsC (W:World) (A:Option Addr) (c:Nat) (l:List S79):Prop where
  row:Kd.C k79 W A l.length l
  cap:l.length≤c
  len:l.length≤1048576
theorem TmsC.below {W W':World} {A:Option Addr} {c:Nat} {l:List S79} (H:TmsC W A c l) (hb:Below W.heap.size W W'):TmsC W' A c l:=⟨Kd.qv1_ H.row hb,H.cap,H.len⟩
theorem TmsC.of {W:World} {B c m:Nat} {A:Option Addr} {l:List S79} (h:TermsR W B (.slice A m c) l) (hl:l.length≤1048576):TmsC W A c l∧m=l.length:=by
  obtain ⟨h1,h2,h3⟩:=Kd.qh3_ h
  subst h1
  exact ⟨⟨h3,h2,hl⟩,rfl⟩
theorem valL_hit {x:S79} {l:List S79} {s:ByteArray} (h:x.f0=s):valL (x :: l) s=x.f1:=by unfold valL;rw [List.find?_cons_of_pos (by simpa using h)]
theorem valL_miss {x:S79} {l:List S79} {s:ByteArray} (h:¬ x.f0=s):valL (x :: l) s=valL l s:=by unfold valL;rw [List.find?_cons_of_neg (by simpa using h)]
set_option maxHeartbeats 8000000 in
set_option maxRecDepth 100000 in
theorem valX (w:World) (D N:Int) {A:Option Addr} {c:Nat} {lt:List S79} (H:TmsC w A c lt) (s:ByteArray) (a:S77) (hv:valL lt s=a) :
    Calls Try.prog 186 #[.agg #[.int .i64 D,.int .i64 N,.slice A lt.length c],.string s] w fun e w'=>e=.returned (.agg #[.int .i64 a.f0,.int .i64 a.f1])∧w'=(w.alloc (.cells #[.int .i64 D,.int .i64 N,.slice A lt.length c] 38)).alloc (.cells #[.int .i64 a.f0,.int .i64 a.f1] 77):=by
  have hu:=Try.underlying38
  have hu2:=Try.underlying79
  have hu3:=Try.underlying77
  have HR:=Aside0.mk H
  clear H
  go_enter Try.func186,Try.ntmps186
  go_wp2
  go_loopg [5] lt.length (fun gg v5 wr=>∃ j:Nat,j≤lt.length∧lt.length - j≤gg∧v5=.int .i64 j∧Aside0 (valL (lt.drop j) s=a)∧wr=(w.alloc (.cells #[.int .i64 D,.int .i64 N,.slice A lt.length c] 38)).alloc (.cells #[.int .i64 0,.int .i64 0] 77))
  case atStart=>exact ⟨0,Nat.zero_le _,by omega,rfl,⟨by rw [List.drop_zero];exact hv⟩,rfl⟩
  case round =>
    clear hv
    obtain ⟨j,hj,hg,rfl,HV,rfl⟩:=hrel
    by_cases hlt:j < lt.length
    · have hltz:(j:Int) < (lt.length:Int):=by omega
      obtain ⟨ad,rfl,t0,t1,t2⟩:=at_T79 (Kd.qv1_ HR.out.row (qb_ (qb_ (Below.refl w.heap.size w) (.cells #[.int .i64 D,.int .i64 N,.slice A lt.length c] 38)) (.cells #[.int .i64 0,.int .i64 0] 77))) (j:Int) (by omega) (by omega)
      have e1:rd_T79 lt (j:Int)=lt[j]:=by simp [rd_T79,List.getD_eq_getElem?_getD,List.getElem?_eq_getElem hlt]
      rw [e1,Int.toNat_natCast] at t0 t1 t2
      have hd:=HV.out
      rw [List.drop_eq_getElem_cons hlt] at hd
      by_cases c1:lt[j].f0=s
      · rw [valL_hit c1] at hd
        obtain ⟨x,hx⟩:∃ x,x=lt[j]:=⟨_,rfl⟩
        rw [← hx] at t0 t1 t2 hd c1
        subst hd
        rw [c1] at t0
        clear hx e1 c1
        go_wp2
        go_returns
        refine ⟨rfl,?_⟩
        rfl
      · rw [valL_miss c1] at hd
        have HD:=Aside0.mk hd
        have c2:(lt[j].f0.toList == s.toList)=false:=by
          rw [beq_eq_false_iff_ne]
          intro h;rw [ByteArray.toList_eq,ByteArray.toList_eq] at h;exact c1 (ByteArray.ext (Array.toList_inj.1 h))
        have HL:=Aside0.mk HR.out.len
        clear hd e1
        go_wp2
        go_roundg (lt.length - (j+1))
        case measure=>omega
        case rel=>exact ⟨j+1,by omega,by omega,by have:=HL.out;first|rfl|(rw [w64 (by omega) (by omega)];rfl),HD,rfl⟩
    · have hltz:¬ (j:Int) < (lt.length:Int):=by omega
      have hd:=HV.out
      rw [List.drop_eq_nil_of_le (by omega)] at hd
      obtain rfl:zeroF=a:=hd
      go_wp2
      go_returns
      exact ⟨rfl,rfl⟩
theorem zeroS (W:World) (a:S77):Calls Try.prog 141 #[.agg #[.int .i64 a.f0,.int .i64 a.f1]] W fun e w'=>e=.returned (.bool (a.f0 == 0))∧Below W.heap.size W w':=qv2_.calls _ _ _ _ rfl
/-- A fraction as_ the reference tells it. -/
def tellF (p:S77 × Bool):S77:=if p.2=true then p.1 else ⟨0,0⟩
theorem timesFS (W:World) {a b:S77} (ha:okF a) (hb:okF b):Calls Try.prog 178 #[.agg #[.int .i64 a.f0,.int .i64 a.f1],.agg #[.int .i64 b.f0,.int .i64 b.f1]] W fun e w'=>e=.returned (.tuple #[.agg #[.int .i64 (tellF (timesM a b)).f0,.int .i64 (tellF (timesM a b)).f1],.bool (timesM a b).2])∧Below W.heap.size W w':=by
  obtain ⟨k,hk⟩:=(stimes_is ha hb).rounds
  refine qk2_.calls k _ _ _ _ _ _ _ _ ?_
  rw [hk]
  unfold toldM tellF
  cases (timesM a b).2 <;> rfl
theorem plusFS (W:World) {a b:S77} (ha:okF a) (hb:okF b):Calls Try.prog 187 #[.agg #[.int .i64 a.f0,.int .i64 a.f1],.agg #[.int .i64 b.f0,.int .i64 b.f1]] W fun e w'=>e=.returned (.tuple #[.agg #[.int .i64 (tellF (plusM a b)).f0,.int .i64 (tellF (plusM a b)).f1],.bool (plusM a b).2])∧Below W.heap.size W w':=by
  obtain ⟨k,hk⟩:=(splus_is ha hb).rounds
  refine qs2_.calls k _ _ _ _ _ _ _ _ ?_
  rw [hk]
  unfold toldM tellF
  cases (plusM a b).2 <;> rfl
theorem plusBadS (W:World) (a:S77):Calls Try.prog 187 #[.agg #[.int .i64 a.f0,.int .i64 a.f1],.agg #[.int .i64 0,.int .i64 0]] W fun e w'=>e=.returned (.tuple #[.agg #[.int .i64 0,.int .i64 0],.bool false])∧Below W.heap.size W w':=by
  obtain ⟨k,hk⟩:=(splus_bad a).rounds
  exact qs2_.calls k _ _ _ _ _ _ _ _ hk
theorem wordsS (W:World) (d m:Nat) (hd:d≤3) (hm:m≤8):Calls Try.prog 185 #[.int .i64 (d:Int),.int .i64 (m:Int)] W fun e w'=>∃ A c,e=.returned (.slice A (wordsN d m).length c)∧WordsAt w' W.heap.size A c ((wordsN d m).map encW)∧Below W.heap.size W w':=by
  obtain ⟨k,hk⟩:=(spec_words d m hd (by omega)).rounds
  refine (qp_.calls k _ _ _ _ hk).mono ?_
  rintro e w' ⟨v,rfl,hv,hb⟩
  rw [wordsL_enc] at hv
  obtain ⟨A,c,rfl,h⟩:=WordsAt.of hv
  exact ⟨A,c,by rw [List.length_map],h,hb⟩
theorem emptyS (W:World) (D N:Int) {A:Option Addr} {c:Nat} {l:List S79} (H:TmsC W A c l):Calls Try.prog 108 #[.agg #[.int .i64 D,.int .i64 N,.slice A l.length c]] W fun e w'=>∃ v:Value,e=.returned (.agg #[.int .i64 D,.int .i64 N,v])∧TermsR w' W.heap.size v []∧Below W.heap.size W w' :=
  qd3_.calls _ _ _ _ _ _ _ _ _ H.row H.cap rfl
theorem oneS (W:World) (m:Int):Calls Try.prog 124 #[.int .i64 m] W fun e w'=>e=.returned (.agg #[.int .i64 m,.int .i64 1])∧Below W.heap.size W w':=qf3_.calls _ _ _ _ rfl
end Go.Proofs.Ytaiefdhenikiiaa.Base
namespace Go.Proofs.Ytaiefdhenikiiaa.Base
open Go.RowKit Go.Proofs.YtaiefdhenikiiaaW.PrintWords Go.Proofs.YtaiefdhenikiiaaW.PrintLast Go.Proofs.YtaiefdhenikiiaaW.PrintMore
set_option linter.unusedVariables false
set_option linter.unusedSimpArgs false
/-- A series that is as_ told,as_ a table. -/
theorem open_like {d n:Nat} (hs:Sz d n) {l:List S79} (h:goodB d n l=true):Like (openN d n l) (zeroT d n):=openN_like hs l (good_okTs (by have:=hs.d3;omega) h).1
theorem openN_good (d n:Nat) (l:List S79):(openN d n l).bad=false:=by
  have key:∀ (l:List S79) (o:Tb),(l.foldl openStep o).bad=o.bad:=by
    intro l
    induction l with
    | nil=>intro o;rfl
    | cons x l ih=>intro o;rw [List.foldl_cons,ih];rfl
  exact key l _
end Go.Proofs.Ytaiefdhenikiiaa.Base
namespace Go.Proofs.Ytaiefdhenikiiaa.Base
open Go.RowKit Go.Proofs.YtaiefdhenikiiaaW.PrintWords Go.Proofs.YtaiefdhenikiiaaW.PrintLast Go.Proofs.YtaiefdhenikiiaaW.PrintMore
set_option linter.unusedVariables false
set_option linter.unusedSimpArgs false
theorem coLoop_skip {d n:Nat} {t:Tb} (hd:t.d=d) (acc:List S79):∀ m i,i+m≤(wordsD d n).length→(∀ j,i≤j→j < i+m→(t.vs.getD j zeroF).f0=0)→coLoop d n ((wordsD d n).drop i) t acc=coLoop d n ((wordsD d n).drop (i+m)) t acc
  | 0,_,_,_=>rfl
  | m+1,i,h,hz=>by
    have hlt:i < (wordsD d n).length:=by omega
    have e:=List.drop_eq_getElem_cons hlt
    rw [e,coLoop]
    have hv:(t.val (wordsD d n)[i]).f0=0:=by
      unfold Tb.val
      rw [hd,wordsD_at]
      exact hz i (Nat.le_refl _) (by omega)
    rw [if_pos hv,coLoop_skip hd acc m (i+1) (by omega) (fun j h1 h2=>hz j (by omega) (by omega))]
    rw [show i+(m+1)=i+1+m by omega]
theorem head_terms {t p:Tb} (hp:Sz p.d p.n) (ht:Like t p):∀ m i,i+m=(wordsD p.d p.n).length→(∀ j,j < i→t.vs.getD j zeroF=zeroF) →
    (termsT t=[]∧∀ j,j < (wordsD p.d p.n).length→(t.vs.getD j zeroF).f0=0) ∨ ∃ l rest,termsT t=⟨encW l,t.val l⟩ :: rest∧(t.val l).f0 ≠ 0∧isD p.d p.n l∧i≤numN p.d l∧numN p.d l < (wordsD p.d p.n).length∧∀ j,j < numN p.d l→t.vs.getD j zeroF=zeroF
  | 0,i,h,hz=>by
    left
    refine ⟨?_,fun j hj=>by rw [hz j (by omega)];rfl⟩
    rw [termsT_seg,ht.1,ht.2.1]
    exact seg_zero _ _ _ (fun j _ hj=>by rw [hz j (by omega)];rfl)
  | m+1,i,h,hz=>by
    have hlt:i < (wordsD p.d p.n).length:=by omega
    by_cases c:(t.vs.getD i zeroF).f0=0
    · have e:t.vs.getD i zeroF=zeroF:=okF_zero (okF_at ht.2.2 i) c
      rcases head_terms hp ht m (i+1) (by omega) (fun j hj=>by
        by_cases c2:j=i
        · rw [c2];exact e
        · exact hz j (by omega)) with h1|⟨l,rest,h1,h2,h3,h4,h5,h6⟩
      · exact .inl h1
      · exact .inr ⟨l,rest,h1,h2,h3,by omega,h5,h6⟩
    · right
      have hn:numN p.d (wordsD p.d p.n)[i]=i:=wordsD_at _ _ _ hlt
      have hv:t.val (wordsD p.d p.n)[i]=t.vs.getD i zeroF:=by unfold Tb.val;rw [ht.1,hn]
      have hI:isD p.d p.n (wordsD p.d p.n)[i]:=(wordsD_mem _ _ _).1 (List.getElem_mem hlt)
      refine ⟨(wordsD p.d p.n)[i],segT t (i+1) ((wordsD p.d p.n).length - (i+1)),?_,by rw [hv];exact c,hI,by omega,by omega,fun j hj=>hz j (by omega)⟩
      rw [termsT_seg,ht.1,ht.2.1,seg_split t hlt,seg_zero t 0 i (fun j _ hj=>by rw [hz j (by omega)];rfl),List.nil_append,hv]
      have e4:(wordsA t.d t.n).getD i ByteArray.empty=encW (wordsD p.d p.n)[i]:=by
        rw [ht.1,ht.2.1]
        unfold wordsA
        rw [List.getD_eq_getElem?_getD,List.getElem?_map,List.getElem?_eq_getElem hlt];rfl
      have e5:termOf t i=some ⟨encW (wordsD p.d p.n)[i],t.vs.getD i zeroF⟩:=by
        unfold termOf
        rw [if_pos c,e4]
      rw [e5]
      rfl
/-- What is left of a table behind one step. -/
def lessB (d n:Nat) (t:Tb) (l:List Nat):Tb:=sumT t (scaleT (bracketT d n l) (negA (t.val l)))
theorem less_minus {d n:Nat} (hs:Sz d n) (t:Tb) (l:List Nat):minusT d n t l (t.val l)=lessB d n t l:=by
  unfold minusT lessB
  rw [scale_neg (bracketT_like hs l).2.2]
theorem lessB_like {d n:Nat} {t:Tb} (h:Like t (zeroT d n)) (l:List Nat):Like (lessB d n t l) (zeroT d n):=sumT_like h
theorem lessB_zero {d n:Nat} (hs:Sz d n) (hn:n≤5) {t:Tb} (h:Like t (zeroT d n)) {l:List Nat} (hl:isD d n l) (hy:lynN l=true) (hz:∀ j,j < numN d l→t.vs.getD j zeroF=zeroF) (hb:(lessB d n t l).bad=false):∀ j,j < numN d l+1→(lessB d n t l).vs.getD j zeroF=zeroF:=by
  intro j hj
  have hlt:numN d l < (wordsD d n).length:=numN_lt _ _ _ hl
  have hB:(bracketT d n l).bad=false:=by
    cases c:(bracketT d n l).bad with
    | false=>rfl
    | true =>
      unfold lessB at hb
      rw [sumT_bad (.inr (scaleT_bad _ c))] at hb;cases hb
  obtain ⟨t1,t2⟩:=bracketT_tri hs hn hl hy hB
  have lB:=bracketT_like hs (d:=d) (n:=n) l
  have hlen:t.vs.length=(wordsD d n).length:=by rw [h.2.2.len,h.1,h.2.1];rfl
  have hlen2:(bracketT d n l).vs.length=(wordsD d n).length:=by rw [lB.2.2.len,lB.1,lB.2.1];rfl
  have hok:okF (t.val l):=h.2.2.val l
  unfold lessB
  rw [sum_vals h.2.2 _ (by omega),scale_vals lB.2.2 _ _ (by omega)]
  have hD:(bracketT d n l).d=d:=lB.1
  have hN:(bracketT d n l).n=n:=lB.2.1
  by_cases c:j=numN d l
  · subst c
    have e1:(bracketT d n l).vs.getD (numN d l) zeroF=oneF:=by rw [← t1];unfold Tb.val;rw [hD]
    have e2:t.vs.getD (numN d l) zeroF=t.val l:=by unfold Tb.val;rw [h.1];rfl
    rw [e1,one_times (negA_ok hok),e2]
    have e3:chkF (negA (t.val l),true).1 (negA (t.val l),true).2=negA (t.val l):=rfl
    rw [e3,plus_neg hok]
    rfl
  · have hjl:j < (wordsD d n).length:=by omega
    have e1:(bracketT d n l).vs.getD j zeroF=zeroF:=by
      have hw:numN d (wordsD d n)[j]=j:=wordsD_at _ _ _ hjl
      have hI:isD d n (wordsD d n)[j]:=(wordsD_mem _ _ _).1 (List.getElem_mem hjl)
      have h3:=(num_lt_iff d (wordsD d n)[j] l hI.2 hl.2).1 (by omega)
      have h4:=t2 (wordsD d n)[j] (by rw [hD,hN];exact hI) (by
        by_cases c2:(wordsD d n)[j].length ≠ l.length
        · exact .inl c2
        · rw [if_neg c2] at h3;exact .inr h3)
      have h5:(bracketT d n l).vs.getD (numN (bracketT d n l).d (wordsD d n)[j]) zeroF=zeroF:=h4
      rw [hD,hw] at h5
      exact h5
    have e3:chkF (zeroF,true).1 (zeroF,true).2=zeroF:=rfl
    rw [e1,times_zero (negA_ok hok),hz j (by omega),e3,plus_zero zero_okF]
    rfl
/-- One step. -/
theorem co_step {d n:Nat} (hs:Sz d n) (hn:n≤5) {t:Tb} (h:Like t (zeroT d n)) {i:Nat} (hi:i≤(wordsD d n).length) (hz:∀ j,j < i→t.vs.getD j zeroF=zeroF) (acc:List S79) :
    (termsT t=[]∧coLoop d n ((wordsD d n).drop i) t acc=(acc,0)) ∨ ∃ l rest,termsT t=⟨encW l,t.val l⟩ :: rest∧(t.val l).f0 ≠ 0∧isD d n l∧i≤numN d l∧numN d l < (wordsD d n).length∧(lynN l=false→coLoop d n ((wordsD d n).drop i) t acc=([],5))∧(lynN l=true→(lessB d n t l).bad=true→coLoop d n ((wordsD d n).drop i) t acc=([],3))∧(lynN l=true→(lessB d n t l).bad=false→coLoop d n ((wordsD d n).drop i) t acc=coLoop d n ((wordsD d n).drop (numN d l+1)) (lessB d n t l) (acc ++ [⟨encW l,t.val l⟩])∧∀ j,j < numN d l+1→(lessB d n t l).vs.getD j zeroF=zeroF):=by
  have hd:t.d=d:=h.1
  rcases head_terms (p:=zeroT d n) hs h ((wordsD d n).length - i) i (by show _=(wordsD d n).length;omega) hz with ⟨h1,h2⟩|⟨l,rest,h1,h2,h3,h4,h5,h6⟩
  · left
    refine ⟨h1,?_⟩
    rw [coLoop_skip hd acc ((wordsD d n).length - i) i (by omega) (fun j _ hj=>h2 j (by show j < (wordsD d n).length;omega)),show i+((wordsD d n).length - i)=(wordsD d n).length by omega,List.drop_length,coLoop]
  · right
    have h3:isD d n l:=h3
    have h4:i≤numN d l:=h4
    have h5:numN d l < (wordsD d n).length:=h5
    have h6:∀ j,j < numN d l→t.vs.getD j zeroF=zeroF:=h6
    have e0:coLoop d n ((wordsD d n).drop i) t acc=coLoop d n ((wordsD d n).drop (numN d l)) t acc:=by
      rw [coLoop_skip hd acc (numN d l - i) i (by omega) (fun j _ hj=>by rw [h6 j (by omega)];rfl),show i+(numN d l - i)=numN d l by omega]
    have hw:(wordsD d n)[numN d l]=l:=by
      have:=wordsD_is d n l h3
      rw [List.getElem?_eq_getElem h5] at this
      exact Option.some.inj this
    rw [e0,List.drop_eq_getElem_cons h5,hw,coLoop,if_neg h2,less_minus hs]
    refine ⟨l,rest,h1,h2,h3,h4,h5,fun c=>by rw [if_neg (by rw [c];simp)],fun c cb=>by rw [if_pos c,if_pos cb],fun c cb=>⟨by rw [if_pos c,if_neg (by rw [cb];simp)],lessB_zero hs hn h h3 c h6 cb⟩⟩
theorem coLoop_len {d n:Nat}:∀ (ls:List (List Nat)) (t:Tb) (acc:List S79),(coLoop d n ls t acc).1.length≤acc.length+ls.length
  | [],t,acc=>by simp [coLoop]
  | l :: ls,t,acc=>by
    rw [coLoop]
    split
    · have:=coLoop_len ls t acc (d:=d) (n:=n);rw [List.length_cons];omega
    · split
      · split
        · simp
        · have:=coLoop_len ls (minusT d n t l (t.val l)) (acc ++ [⟨encW l,t.val l⟩]) (d:=d) (n:=n)
          rw [List.length_append,List.length_singleton] at this
          rw [List.length_cons];omega
      · simp
theorem coordsOf_len {d n:Nat} (hs:Sz d n) (t:Tb):(coordsOf d n t).1.length≤19683:=by
  have h1:=coLoop_len (d:=d) (n:=n) (wordsD d n) t []
  have h2:=wordsD_small d n hs.d3 hs.n8
  rw [List.length_nil] at h1
  unfold coordsOf
  omega
theorem ser_nat5 {D N:Int} {l:List S79} (h:serB D N l=true):∃ d n:Nat,D=d∧N=n∧Sz d n∧1≤n∧n≤5∧goodB d n l=true:=by
  unfold serB at h
  rw [Bool.and_eq_true] at h
  obtain ⟨d,n,rfl,rfl,h1,h2⟩:=lvl_nat h.1
  exact ⟨d,n,rfl,rfl,⟨by omega,by omega,by omega⟩,h2.1,h2.2,by have:=h.2;rwa [Int.toNat_natCast,Int.toNat_natCast] at this⟩
/-- The coordinates of a series,and the code. -/
def lieR (D N:Int) (l:List S79):List S79 × Int:=if serB D N l=true then ((coordsOf D.toNat N.toNat (openN D.toNat N.toNat l)).1,((coordsOf D.toNat N.toNat (openN D.toNat N.toNat l)).2:Int)) else ([],1)
theorem lieR_len (D N:Int) (l:List S79):(lieR D N l).1.length≤2000000:=by
  unfold lieR
  split
  · next h =>
    obtain ⟨d,n,rfl,rfl,hs,_⟩:=ser_nat5 h
    rw [Int.toNat_natCast,Int.toNat_natCast]
    have:=coordsOf_len hs (openN d n l)
    show (coordsOf d n (openN d n l)).1.length≤_
    omega
  · simp
end Go.Proofs.Ytaiefdhenikiiaa.Base
namespace Go.Proofs.Ytaiefdhenikiiaa.Base
open Go.RowKit Go.Proofs.YtaiefdhenikiiaaW.PrintWords Go.Proofs.YtaiefdhenikiiaaW.PrintLast Go.Proofs.YtaiefdhenikiiaaW.PrintMore
set_option linter.unusedVariables false
set_option linter.unusedSimpArgs false
theorem prod_failAt {t u:Tb} {d n m i:Nat} (hm:m≤n) (hi:i < (wordsN d m).length) (h:wordO t u (wordsN d m)[i]=none):prodO t u (wordsD d n) (some [])=none:=by
  obtain ⟨r,hr⟩:=wordsU_le d (show m+1≤n+1 by omega)
  rw [← wordsU_D,hr,show wordsU d (m+1)=wordsU d m ++ wordsN d m from rfl]
  have e:wordsN d m=(wordsN d m).take i ++ (wordsN d m)[i] :: (wordsN d m).drop (i+1):=by
    rw [← List.drop_eq_getElem_cons hi,List.take_append_drop]
  have e2:∀ (X p q:List (List Nat)) (x:List Nat),X=p ++ x :: q→wordsU d m ++ X ++ r=(wordsU d m ++ p) ++ x :: (q ++ r):=by
    intro X p q x h
    rw [h];simp
  rw [e2 _ _ _ _ e]
  exact prodO_fail t u _ _ _ h
/-- What stands in memory while products are summed. -/
structure StS (w W:World) (bo:Nat) (d n:Int) (A:Option Addr) (ca la:Nat) (B:Option Addr) (cb lb:Nat) (vo:Value) (acc:List S79):Prop where
  sx:SrAt W w.heap.size d n (.slice A la ca)
  sy:SrAt W (w.heap.size+1) d n (.slice B lb cb)
  sr:SrAt W (w.heap.size+2) 0 0 (.slice none 0 0)
  so:SrAt W bo d n vo
  ro:TermsR W w.heap.size vo acc
  be:Below w.heap.size w W
  lo:w.heap.size+2 < bo
theorem StS.below {w W W':World} {bo:Nat} {d n:Int} {A B:Option Addr} {ca la cb lb:Nat} {vo:Value} {acc:List S79} (H:StS w W bo d n A ca la B cb lb vo acc) (hb:Below W.heap.size W W'):StS w W' bo d n A ca la B cb lb vo acc :=
  ⟨H.sx.below hb,H.sy.below hb,H.sr.below hb,H.so.below hb,Kd.qi2_ H.ro hb,qh_ H.be hb,H.lo⟩
theorem keep7 {w W:World} {a1 a2 a3 a4 a5 a6 a7:Addr} {v1 v2 v3 v4 v5 v6 v7:Value} (p1:w.cell? a1=some v1) (p2:w.cell? a2=some v2) (p3:w.cell? a3=some v3) (p4:w.cell? a4=some v4) (p5:w.cell? a5=some v5) (p6:w.cell? a6=some v6) (p7:w.cell? a7=some v7) (hb:Below w.heap.size w W) :
    W.cell? a1=some v1∧W.cell? a2=some v2∧W.cell? a3=some v3∧W.cell? a4=some v4∧W.cell? a5=some v5∧W.cell? a6=some v6∧W.cell? a7=some v7 :=
  ⟨qt_ hb p1,qt_ hb p2,qt_ hb p3,qt_ hb p4,qt_ hb p5,qt_ hb p6,qt_ hb p7⟩
theorem FrAt.put3 {w:World} {b:Nat} {s:S77} (h:FrAt w b s) (a:S77):FrAt ((w.setCell ⟨b,0,none⟩ (.int .i64 a.f0)).setCell ⟨b,1,none⟩ (.int .i64 a.f1)) b a:=qh1_ (qh1_ h 0 _) 1 _
set_option maxHeartbeats 32000000 in
set_option maxRecDepth 100000 in
theorem timesS (w:World) (d n:Nat) (hs:Sz d n) {t u:Tb} (ht:Like t (zeroT d n)) (hu:Like u (zeroT d n)) (hbt:t.bad=false) (hbu:u.bad=false) {A B:Option Addr} {ca cb:Nat} (hA:TmsC w A ca (termsT t)) (hB:TmsC w B cb (termsT u)) :
    Calls Try.prog 133 #[.agg #[.int .i64 (d:Int),.int .i64 (n:Int),.slice A (termsT t).length ca],.agg #[.int .i64 (d:Int),.int .i64 (n:Int),.slice B (termsT u).length cb]] w (OutR w d n (outT (timesT t u))):=by
  have hR0:=times_terms t u (zeroT d n) hs ht hbt hbu
  rw [← hR0]
  obtain ⟨R,hR⟩:∃ R,R=prodO t u (wordsD d n) (some []):=⟨_,rfl⟩
  show Calls _ _ _ _ (OutR w d n (prodO t u (wordsD d n) (some [])))
  rw [← hR]
  have HRR:=Aside0.mk hR
  have HVt:=Aside0.mk (show ∀ l,isD d n l→valL (termsT t) (encW l)=t.val l from fun l hl=>valL_terms ht.2.2 (by rw [ht.1,ht.2.1];exact hl))
  have HVu:=Aside0.mk (show ∀ l,isD d n l→valL (termsT u) (encW l)=u.val l from fun l hl=>valL_terms hu.2.2 (by rw [hu.1,hu.2.1];exact hl))
  have HFt:=Aside0.mk (show ∀ l,okF (t.val l) from fun l=>ht.2.2.val l)
  have HFu:=Aside0.mk (show ∀ l,okF (u.val l) from fun l=>hu.2.2.val l)
  generalize termsT t=lt at hA HVt ⊢
  generalize termsT u=lu at hB HVu ⊢
  have HA:=Aside0.mk hA
  have HB:=Aside0.mk hB
  have HS:=Aside0.mk hs
  have hu:=Try.underlying38
  have hu2:=Try.underlying79
  have hu3:=Try.underlying77
  clear hR hR0 ht hbt hbu hA hB hs
  go_enter Try.func133,Try.ntmps133
  go_wp2_with (go_at_call 108;refine (emptyS _ d n (HA.out.below (qb_ (qb_ (qb_ (Below.refl _ _) _) _) _))).mono ?_;rintro e w1 ⟨v,rfl,hv,hb⟩;obtain ⟨A1,c1,rfl⟩:=Kd.qg2_ hv;have S1:SrAt w1 w.heap.size d n (.slice A lt.length ca):=qm_ (old_at (old_at (new_at rfl))) hb;have S2:SrAt w1 (w.heap.size+1) d n (.slice B lu.length cb):=qm_ (old_at (new_at (by simp))) hb;have S3:SrAt w1 (w.heap.size+2) 0 0 (.slice none 0 0):=qm_ (new_at (by simp)) hb;have HB1:=Aside0.mk (show Below w.heap.size w w1 from qh_ (qb_ (qb_ (qb_ (Below.refl _ _) _) _) _) hb);have HL1:=Aside0.mk (show w.heap.size+2 < w1.heap.size from S3.lt);have HS1:=Aside0.mk S1;have HS2:=Aside0.mk S2;have HS3:=Aside0.mk S3;have HV1:=Aside0.mk (show TermsR w1 w.heap.size (.slice A1 ([]:List S79).length c1) [] from Kd.qn2_ hv (qk_ (qb_ (qb_ (qb_ (Below.refl w.heap.size w) _) _) _)));clear S1 S2 S3 hv hb)
  go_loopg [7] (n+1) (fun gg v7 wr=>∃ (m:Nat) (vo:Value) (acc:List S79),m≤n+1∧n+1 - m≤gg∧v7=.int .i64 m∧Aside0 (StS w wr w1.heap.size d n A ca lt.length B cb lu.length vo acc)∧Aside0 (prodO t u (wordsU d m) (some [])=some acc))
  case atStart =>
    refine ⟨0,.slice A1 0 c1,[],Nat.zero_le _,by omega,rfl,⟨⟨?_,?_,?_,?_,?_,?_,HL1.out⟩⟩,⟨rfl⟩⟩
    · exact HS1.out.alloc _
    · exact HS2.out.alloc _
    · exact HS3.out.alloc _
    · exact new_at rfl
    · exact Kd.qq1_ HV1.out _
    · exact qb_ HB1.out _
  case round =>
    clear HS1 HS2 HS3 HV1
    obtain ⟨m,vo,acc,hm,hg,rfl,HI,HP⟩:=hrel
    by_cases hlt:m≤n
    · have hz:(m:Int)≤(n:Int):=by omega
      have x0:=HI.out.sx.c0
      have x1:=HI.out.sx.c1
      have hlen:=Aside0.mk (wordsN_small d m HS.out.d3 (by have:=HS.out.n8;omega))
      have HML:=Aside0.mk hlt
      have HWL:=Aside0.mk (show ((wordsN d m).map encW).length=(wordsN d m).length from List.length_map _)
      go_wp2_with (go_at_call 185;refine (wordsS _ d m HS.out.d3 (by have:=HS.out.n8;have:=HML.out;omega)).mono ?_;rintro e w2 ⟨Aw,cw,rfl,HW,hb⟩;have HI2:=Aside0.mk (HI.out.below hb);have HW2:=Aside0.mk (show ∃ Bw,WordsAt w2 Bw Aw cw ((wordsN d m).map encW) from ⟨_,HW⟩);clear HW hb)
      clear x0 x1
      go_loopg [9] (wordsN d m).length (fun gg v9 wi=>∃ (i:Nat) (vo:Value) (acc:List S79),i≤(wordsN d m).length∧(wordsN d m).length - i≤gg∧v9=.int .i64 i∧Aside0 (StS w wi w1.heap.size d n A ca lt.length B cb lu.length vo acc)∧Aside0 (prodO t u (wordsU d m ++ (wordsN d m).take i) (some [])=some acc)∧Aside0 (∃ Bw,WordsAt wi Bw Aw cw ((wordsN d m).map encW)))
      case atStart=>exact ⟨0,vo,acc,Nat.zero_le _,by omega,rfl,HI2,⟨by rw [List.take_zero,List.append_nil];exact HP.out⟩,HW2⟩
      case round =>
        clear HI HP HI2 HW2
        obtain ⟨i,vo,acc,hi,hgi,rfl,HI,HP,HW⟩:=hrel
        by_cases hil:i < (wordsN d m).length
        · have hiz:(i:Int) < ((wordsN d m).length:Int):=by omega
          obtain ⟨Bw,HWb⟩:=HW.out
          obtain ⟨ad,rfl,hx⟩:=HWb.at i (by rw [HWL.out];exact hil)
          obtain ⟨l,hl⟩:∃ l,l=(wordsN d m)[i]:=⟨_,rfl⟩
          have hxl:((wordsN d m).map encW)[i]'(by rw [HWL.out];exact hil)=encW l:=by rw [hl];simp
          rw [hxl] at hx
          have HLL:=Aside0.mk hl
          have HD:=Aside0.mk (show isD d n l by rw [hl];exact wordsN_isD HML.out (List.getElem_mem hil))
          have hsz:(encW l).size=l.length:=encW_size l
          have hll:l.length≤8:=by have:=HD.out.1;have:=HS.out.n8;omega
          have HX:=Aside0.mk hx
          have HWB:=Aside0.mk HWb
          clear hl hxl HWb
          go_wp2_with (go_at_call 124;refine (oneS _ 0).mono ?_;rintro e w3 ⟨rfl,hb⟩;have HI3:=Aside0.mk (HI.out.below hb);have HX3:=Aside0.mk (qt_ hb HX.out);have HW3:=Aside0.mk (WordsAt.below HWB.out hb);clear hb)
          go_loopg [11] (l.length+1) (fun gg v11 wj=>∃ (j:Nat) (s:S77),j≤l.length+1∧l.length+1 - j≤gg∧v11=.int .i64 j∧Aside0 (FrAt wj w3.heap.size s)∧Aside0 (cutsO (fun i=>t.val (l.take i)) (fun i=>u.val (l.drop i)) j=some s)∧Aside0 (Below w3.heap.size w3 wj))
          case atStart=>exact ⟨0,zeroF,Nat.zero_le _,by omega,rfl,⟨FrAt.new _ zeroF⟩,⟨rfl⟩,⟨qb_ (Below.refl _ _) _⟩⟩
          case round =>
            obtain ⟨j,s,hj,hgj,rfl,HF,HC,HBj⟩:=hrel
            have hxj:=qt_ HBj.out HX3.out
            by_cases hjl:j < l.length+1
            · have hjz:(j:Int)≤(l.length:Int):=by omega
              obtain ⟨a,ha⟩:∃ a,a=t.val (l.take j):=⟨_,rfl⟩
              obtain ⟨b,hb0⟩:∃ b,b=u.val (l.drop j):=⟨_,rfl⟩
              have HVA:=Aside0.mk (show ∀ W,TmsC W A ca lt→Calls Try.prog 186 #[.agg #[.int .i64 (d:Int),.int .i64 (n:Int),.slice A lt.length ca],.string ((encW l).extract 0 j)] W (fun e w'=>e=.returned (.agg #[.int .i64 a.f0,.int .i64 a.f1])∧w'=(W.alloc (.cells #[.int .i64 (d:Int),.int .i64 (n:Int),.slice A lt.length ca] 38)).alloc (.cells #[.int .i64 a.f0,.int .i64 a.f1] 77)) from fun W H=>valX W _ _ H _ a (by rw [extract_enc l 0 j (Nat.zero_le _),List.drop_zero,ha];exact HVt.out _ (isD_take HD.out j)))
              have HVB:=Aside0.mk (show ∀ W,TmsC W B cb lu→Calls Try.prog 186 #[.agg #[.int .i64 (d:Int),.int .i64 (n:Int),.slice B lu.length cb],.string ((encW l).extract j l.length)] W (fun e w'=>e=.returned (.agg #[.int .i64 b.f0,.int .i64 b.f1])∧w'=(W.alloc (.cells #[.int .i64 (d:Int),.int .i64 (n:Int),.slice B lu.length cb] 38)).alloc (.cells #[.int .i64 b.f0,.int .i64 b.f1] 77)) from fun W H=>valX W _ _ H _ b (by rw [extract_enc l j _ (by omega),List.take_length,hb0];exact HVu.out _ (isD_drop HD.out j)))
              have HOA:=Aside0.mk (show okF a by rw [ha];exact HFt.out _)
              have HOB:=Aside0.mk (show okF b by rw [hb0];exact HFu.out _)
              have HOS:=Aside0.mk (cutsO_ok HC.out)
              have HIj:=Aside0.mk (HI3.out.below HBj.out)
              have HAj:=Aside0.mk (HA.out.below HIj.out.be)
              have HBBj:=Aside0.mk (HB.out.below HIj.out.be)
              have HCS:=Aside0.mk (show cutsO (fun i=>t.val (l.take i)) (fun i=>u.val (l.drop i)) (j+1)=cutO a b s by
                show (cutsO _ _ j).bind _=_
                rw [HC.out,ha,hb0];rfl)
              have p0:=HIj.out.sx.c0
              have p1:=HIj.out.sx.c1
              have p2:=HIj.out.sx.c2
              have q0:=HIj.out.sy.c0
              have q1:=HIj.out.sy.c1
              have q2:=HIj.out.sy.c2
              have r0:=hxj
              clear ha hb0
              go_wp2
              go_cut [12,13] (fun v12 v13 wx=>∃ b9 b10:Nat,v12=.pointer (some ⟨b9,0,none⟩)∧v13=.pointer (some ⟨b10,0,none⟩)∧Aside0 (FrAt wx b9 a)∧Aside0 (FrAt wx b10 b)∧Aside0 (Below wr.heap.size wr wx))
              case first =>
                go_region_held3 (fun w'=>w'.cell? ⟨w.heap.size,0,none⟩=some (.int .i64 (d:Int))∧w'.cell? ⟨w.heap.size,1,none⟩=some (.int .i64 (n:Int))∧w'.cell? ⟨w.heap.size,2,none⟩=some (.slice A lt.length ca)∧w'.cell? ⟨w.heap.size+1,0,none⟩=some (.int .i64 (d:Int))∧w'.cell? ⟨w.heap.size+1,1,none⟩=some (.int .i64 (n:Int))∧w'.cell? ⟨w.heap.size+1,2,none⟩=some (.slice B lu.length cb)∧w'.cell? (ad.add i)=some (.string (encW l))) (exact keep7 p0 p1 p2 q0 q1 q2 r0 (by repeat' (first|(with_reducible exact Below.refl _ _)|(with_reducible refine Below.setCell ?_ ?_ _)|(with_reducible refine qc_ ?_)|(with_reducible refine qa_ ?_ _)|(with_reducible refine qb_ ?_ _)|(simp;done)|(simp;omega)))) (first
                  | (go_at_call_of 186 (Value.agg #[.int .i64 (d:Int),.int .i64 (n:Int),.slice A lt.length ca]);refine (HVA.out _ ?hT).mono ?_;(case hT=>exact HAj.out.below (by repeat (first|(with_reducible exact Below.refl _ _)|(with_reducible refine qc_ ?_)|(with_reducible refine qa_ ?_ _)|(with_reducible refine qb_ ?_ _))));rintro e w4 ⟨rfl,rfl⟩)
                  | (go_at_call_of 186 (Value.agg #[.int .i64 (d:Int),.int .i64 (n:Int),.slice B lu.length cb]);refine (HVB.out _ ?hT).mono ?_;(case hT=>exact HBBj.out.below (by repeat (first|(with_reducible exact Below.refl _ _)|(with_reducible refine qc_ ?_)|(with_reducible refine qa_ ?_ _)|(with_reducible refine qb_ ?_ _))));rintro e w4 ⟨rfl,rfl⟩))
                all_goals
                  go_wp2_with fail
                  go_meet
                  case rel =>
                    refine ⟨_,_,rfl,rfl,⟨?_⟩,⟨?_⟩,⟨?_⟩⟩
                    · (repeat' (first|((with_reducible refine FrAt.new' ?_ _);simp;done)|(with_reducible refine FrAt.put2 ?_ _)|(with_reducible refine FrAt.drewN ?_ _)|(with_reducible refine FrAt.drew ?_)|(with_reducible refine FrAt.alloc ?_ _)|((with_reducible refine FrAt.far ?_ ?_ _);rotate_left;(focus (first|(simp;done)|(simp;omega))))|(with_reducible refine drewN_at ?_)|(with_reducible refine drew_at ?_)|((with_reducible refine new_at ?_);simp;done)|(with_reducible refine old_at ?_)|((with_reducible refine qr1_ ?_ ?_ _);rotate_left;(focus (first|(simp;done)|(simp;omega))))))
                    · (repeat' (first|((with_reducible refine FrAt.new' ?_ _);simp;done)|(with_reducible refine FrAt.put2 ?_ _)|(with_reducible refine FrAt.drewN ?_ _)|(with_reducible refine FrAt.drew ?_)|(with_reducible refine FrAt.alloc ?_ _)|((with_reducible refine FrAt.far ?_ ?_ _);rotate_left;(focus (first|(simp;done)|(simp;omega))))|(with_reducible refine drewN_at ?_)|(with_reducible refine drew_at ?_)|((with_reducible refine new_at ?_);simp;done)|(with_reducible refine old_at ?_)|((with_reducible refine qr1_ ?_ ?_ _);rotate_left;(focus (first|(simp;done)|(simp;omega))))))
                    · (repeat' (first|(with_reducible exact Below.refl _ _)|(with_reducible refine Below.setCell ?_ ?_ _)|(with_reducible refine qc_ ?_)|(with_reducible refine qa_ ?_ _)|(with_reducible refine qb_ ?_ _)|(simp;done)|(simp;omega)))
              case rest =>
                obtain ⟨b9,b10,rfl,rfl,HF9,HF10,HM4⟩:=hcut
                have f9:=HF9.out.c0
                have f9':=HF9.out.c1
                have HS4:=Aside0.mk (HF.out.below HM4.out)
                have HB4:=Aside0.mk (qh_ HBj.out HM4.out)
                clear p0 p1 p2 q0 q1 q2 r0 hxj
                by_cases ca0:a.f0=0
                · have HZ:=Aside0.mk (show ∀ W,Calls Try.prog 141 #[.agg #[.int .i64 a.f0,.int .i64 a.f1]] W fun e w'=>e=.returned (.bool true)∧Below W.heap.size W w' from fun W=>by have:=zeroS W a;rwa [show (a.f0 == 0)=true from by rw [ca0];rfl] at this)
                  have HCO:=Aside0.mk (HCS.out.trans (show cutO a b s=some s from by unfold cutO;rw [if_pos (Or.inl ca0)]))
                  clear ca0
                  go_wp2_with (go_at_call 141;refine (HZ.out _).mono ?_;rintro e w5 ⟨rfl,hb⟩;have HB5:=Aside0.mk hb;clear hb)
                  go_roundg (l.length+1 - (j+1))
                  case measure=>omega
                  case rel=>exact ⟨j+1,s,by omega,by omega,by first|rfl|(rw [w64 (by omega) (by omega)];rfl),⟨HS4.out.below HB5.out⟩,HCO,⟨qh_ HB4.out HB5.out⟩⟩
                · have HZ:=Aside0.mk (show ∀ W,Calls Try.prog 141 #[.agg #[.int .i64 a.f0,.int .i64 a.f1]] W fun e w'=>e=.returned (.bool false)∧Below W.heap.size W w' from fun W=>by have:=zeroS W a;rwa [show (a.f0 == 0)=false from by simpa using ca0] at this)
                  by_cases cb0:b.f0=0
                  · have HZ2:=Aside0.mk (show ∀ W,Calls Try.prog 141 #[.agg #[.int .i64 b.f0,.int .i64 b.f1]] W fun e w'=>e=.returned (.bool true)∧Below W.heap.size W w' from fun W=>by have:=zeroS W b;rwa [show (b.f0 == 0)=true from by rw [cb0];rfl] at this)
                    have HCO:=Aside0.mk (HCS.out.trans (show cutO a b s=some s from by unfold cutO;rw [if_pos (Or.inr cb0)]))
                    clear ca0 cb0
                    obtain ⟨flag,hflag⟩:∃ b:Nat,b=0:=⟨0,rfl⟩
                    go_wp2_with (first
                      | (go_at_call 141;clear hflag;refine (HZ.out _).mono ?_;rintro e w5 ⟨rfl,hb⟩;have HB5:=Aside0.mk hb;have g0:=(HF10.out.below hb).c0;have g1:=(HF10.out.below hb).c1;clear hb)
                      | (go_at_call 141;refine (HZ2.out _).mono ?_;rintro e w6 ⟨rfl,hb⟩;have HB6:=Aside0.mk (qh_ HB5.out hb);clear hb))
                    go_roundg (l.length+1 - (j+1))
                    case measure=>omega
                    case rel=>exact ⟨j+1,s,by omega,by omega,by first|rfl|(rw [w64 (by omega) (by omega)];rfl),⟨HS4.out.below HB6.out⟩,HCO,⟨qh_ HB4.out HB6.out⟩⟩
                  · have HZ2:=Aside0.mk (show ∀ W,Calls Try.prog 141 #[.agg #[.int .i64 b.f0,.int .i64 b.f1]] W fun e w'=>e=.returned (.bool false)∧Below W.heap.size W w' from fun W=>by have:=zeroS W b;rwa [show (b.f0 == 0)=false from by simpa using cb0] at this)
                    have HCO:=Aside0.mk (HCS.out.trans (show cutO a b s=if (timesM a b).2=true∧(plusM s (timesM a b).1).2=true then some (plusM s (timesM a b).1).1 else none from by unfold cutO;rw [if_neg (fun h=>h.elim ca0 cb0)]))
                    have HTM:=Aside0.mk (show ∀ W,_ from fun W=>timesFS W HOA.out HOB.out)
                    clear ca0 cb0
                    have HFail:=Aside0.mk (show cutsO (fun i=>t.val (l.take i)) (fun i=>u.val (l.drop i)) (j+1)=none→R=none from fun h=>by
                      rw [HRR.out]
                      refine prod_failAt HML.out hil ?_
                      rw [← HLL.out]
                      exact cutsO_fail (by omega) h)
                    by_cases c1:(timesM a b).2=true
                    · obtain ⟨q,hq⟩:∃ q,q=(timesM a b).1:=⟨_,rfl⟩
                      have HOQ:=Aside0.mk (show okF q by rw [hq];exact times_okF c1)
                      have HTM2:=Aside0.mk (show ∀ W,Calls Try.prog 178 #[.agg #[.int .i64 a.f0,.int .i64 a.f1],.agg #[.int .i64 b.f0,.int .i64 b.f1]] W fun e w'=>e=.returned (.tuple #[.agg #[.int .i64 q.f0,.int .i64 q.f1],.bool true])∧Below W.heap.size W w' from fun W=>by have:=HTM.out W;unfold tellF at this;rw [if_pos c1,c1,← hq] at this;exact this)
                      have HCO2:=Aside0.mk (show cutsO (fun i=>t.val (l.take i)) (fun i=>u.val (l.drop i)) (j+1)=if (plusM s q).2=true then some (plusM s q).1 else none from by rw [HCO.out,← hq];simp only [c1,true_and])
                      clear c1 hq HTM HCO
                      by_cases c2:(plusM s q).2=true
                      · obtain ⟨r,hr⟩:∃ r,r=(plusM s q).1:=⟨_,rfl⟩
                        have HPL:=Aside0.mk (show ∀ W,Calls Try.prog 187 #[.agg #[.int .i64 s.f0,.int .i64 s.f1],.agg #[.int .i64 q.f0,.int .i64 q.f1]] W fun e w'=>e=.returned (.tuple #[.agg #[.int .i64 r.f0,.int .i64 r.f1],.bool true])∧Below W.heap.size W w' from fun W=>by have:=plusFS W HOS.out HOQ.out;unfold tellF at this;rw [if_pos c2,c2,← hr] at this;exact this)
                        have HCO3:=Aside0.mk (show cutsO (fun i=>t.val (l.take i)) (fun i=>u.val (l.drop i)) (j+1)=some r from by rw [HCO2.out,if_pos c2,← hr])
                        clear c2 hr
                        obtain ⟨flag,hflag⟩:∃ b:Nat,b=0:=⟨0,rfl⟩
                        go_wp2_with (first
                          | (go_at_call 141;clear hflag;refine (HZ.out _).mono ?_;rintro e w5 ⟨rfl,hb⟩;have HB5:=Aside0.mk hb;have g0:=(HF10.out.below hb).c0;have g1:=(HF10.out.below hb).c1;clear hb)
                          | (go_at_call 141;refine (HZ2.out _).mono ?_;rintro e w6 ⟨rfl,hb⟩;have HB6:=Aside0.mk (qh_ HB5.out hb);have k0:=(HF9.out.below HB6.out).c0;have k1:=(HF9.out.below HB6.out).c1;have k2:=(HF10.out.below HB6.out).c0;have k3:=(HF10.out.below HB6.out).c1;clear hb)
                          | (go_at_call 178;refine (HTM2.out _).mono ?_;rintro e w7 ⟨rfl,hb⟩;have HB7:=Aside0.mk (qh_ HB6.out hb);have S:=HS4.out.below HB7.out;have e0:(w7.alloc (.cells #[.int .i64 q.f0,.int .i64 q.f1] 77)).cell? ⟨w3.heap.size,0,none⟩=some (.int .i64 s.f0):=(S.alloc _).c0;have e1:(w7.alloc (.cells #[.int .i64 q.f0,.int .i64 q.f1] 77)).cell? ⟨w3.heap.size,1,none⟩=some (.int .i64 s.f1):=(S.alloc _).c1;clear S hb)
                          | (go_at_call 187;refine (HPL.out _).mono ?_;rintro e w8 ⟨rfl,hb⟩;have HB8:=Aside0.mk (qh_ HB7.out (qh_ (qb_ (Below.refl _ _) _) hb));have S:=HS4.out.below HB8.out;have e2:(w8.alloc (.cells #[.int .i64 r.f0,.int .i64 r.f1] 77)).cell? ⟨w3.heap.size,0,none⟩=some (.int .i64 s.f0):=(S.alloc _).c0;have e3:(w8.alloc (.cells #[.int .i64 r.f0,.int .i64 r.f1] 77)).cell? ⟨w3.heap.size,1,none⟩=some (.int .i64 s.f1):=(S.alloc _).c1;have ef2:=qd_ (S.alloc (.cells #[.int .i64 r.f0,.int .i64 r.f1] 77)) 0;have ef3:=qd_ (S.alloc (.cells #[.int .i64 r.f0,.int .i64 r.f1] 77)) 1;have HS8:=Aside0.mk S;clear S hb))
                        go_roundg (l.length+1 - (j+1))
                        case measure=>omega
                        case rel =>
                          refine ⟨j+1,r,by omega,by omega,by first|rfl|(rw [w64 (by omega) (by omega)];rfl),⟨?_⟩,HCO3,⟨?_⟩⟩
                          · exact FrAt.put3 (HS8.out.alloc _) r
                          · exact ((qb_ (qh_ HB4.out HB8.out) _).setCell (Nat.le_refl _) _).setCell (Nat.le_refl _) _
                      · have c2':(plusM s q).2=false:=by simpa using c2
                        have HPL:=Aside0.mk (show ∀ W,Calls Try.prog 187 #[.agg #[.int .i64 s.f0,.int .i64 s.f1],.agg #[.int .i64 q.f0,.int .i64 q.f1]] W fun e w'=>e=.returned (.tuple #[.agg #[.int .i64 0,.int .i64 0],.bool false])∧Below W.heap.size W w' from fun W=>by have:=plusFS W HOS.out HOQ.out;unfold tellF at this;rw [if_neg c2,c2'] at this;exact this)
                        have HRN:=Aside0.mk (HFail.out (by rw [HCO2.out,if_neg c2]))
                        clear c2 c2'
                        obtain ⟨flag,hflag⟩:∃ b:Nat,b=0:=⟨0,rfl⟩
                        go_wp2_with (first
                          | (go_at_call 141;clear hflag;refine (HZ.out _).mono ?_;rintro e w5 ⟨rfl,hb⟩;have HB5:=Aside0.mk hb;have g0:=(HF10.out.below hb).c0;have g1:=(HF10.out.below hb).c1;clear hb)
                          | (go_at_call 141;refine (HZ2.out _).mono ?_;rintro e w6 ⟨rfl,hb⟩;have HB6:=Aside0.mk (qh_ HB5.out hb);have k0:=(HF9.out.below HB6.out).c0;have k1:=(HF9.out.below HB6.out).c1;have k2:=(HF10.out.below HB6.out).c0;have k3:=(HF10.out.below HB6.out).c1;clear hb)
                          | (go_at_call 178;refine (HTM2.out _).mono ?_;rintro e w7 ⟨rfl,hb⟩;have HB7:=Aside0.mk (qh_ HB6.out hb);have S:=HS4.out.below HB7.out;have e0:(w7.alloc (.cells #[.int .i64 q.f0,.int .i64 q.f1] 77)).cell? ⟨w3.heap.size,0,none⟩=some (.int .i64 s.f0):=(S.alloc _).c0;have e1:(w7.alloc (.cells #[.int .i64 q.f0,.int .i64 q.f1] 77)).cell? ⟨w3.heap.size,1,none⟩=some (.int .i64 s.f1):=(S.alloc _).c1;clear S hb)
                          | (go_at_call 187;refine (HPL.out _).mono ?_;rintro e w8 ⟨rfl,hb⟩;have HB8:=Aside0.mk (qh_ HB7.out (qh_ (qb_ (Below.refl _ _) _) hb));have S:=(HIj.out.below (qh_ HM4.out HB8.out)).sr;have e2:(w8.alloc (.cells #[.int .i64 0,.int .i64 0] 77)).cell? ⟨w.heap.size+1+1,0,none⟩=some (.int .i64 0):=(S.alloc _).c0;have e3:(w8.alloc (.cells #[.int .i64 0,.int .i64 0] 77)).cell? ⟨w.heap.size+1+1,1,none⟩=some (.int .i64 0):=(S.alloc _).c1;have e4:(w8.alloc (.cells #[.int .i64 0,.int .i64 0] 77)).cell? ⟨w.heap.size+1+1,2,none⟩=some (.slice none 0 0):=(S.alloc _).c2;have ef2:(w8.alloc (.cells #[.int .i64 0,.int .i64 0] 77)).frozen? ⟨w.heap.size+1+1,0,none⟩=false:=qd_ (S.alloc (.cells #[.int .i64 0,.int .i64 0] 77)) 0;have ef3:(w8.alloc (.cells #[.int .i64 0,.int .i64 0] 77)).frozen? ⟨w.heap.size+1+1,1,none⟩=false:=qd_ (S.alloc (.cells #[.int .i64 0,.int .i64 0] 77)) 1;have ef4:(w8.alloc (.cells #[.int .i64 0,.int .i64 0] 77)).frozen? ⟨w.heap.size+1+1,2,none⟩=false:=qd_ (S.alloc (.cells #[.int .i64 0,.int .i64 0] 77)) 2;have HS8:=Aside0.mk S;have HBW:=Aside0.mk ((HIj.out.below (qh_ HM4.out HB8.out)).be);clear S hb))
                        refine bodyPost_ret (results_ct rfl _ _ (w.heap.size+2) 38 _ (0,0) _ rfl (qh1_ (qh1_ (qh1_ (HS8.out.alloc _) 0 _) 1 _) 2 _) hu rfl (by kernel_rfl)) rfl ?_
                        rw [HRN.out]
                        exact ⟨_,rfl,Kd.R_nil _ _ _ _ _,(((qb_ HBW.out _).setCell (Nat.le_add_right _ 2) _).setCell (Nat.le_add_right _ 2) _).setCell (Nat.le_add_right _ 2) _⟩
                    · have c1':(timesM a b).2=false:=by simpa using c1
                      have HTM2:=Aside0.mk (show ∀ W,Calls Try.prog 178 #[.agg #[.int .i64 a.f0,.int .i64 a.f1],.agg #[.int .i64 b.f0,.int .i64 b.f1]] W fun e w'=>e=.returned (.tuple #[.agg #[.int .i64 0,.int .i64 0],.bool false])∧Below W.heap.size W w' from fun W=>by have:=HTM.out W;unfold tellF at this;rw [if_neg c1,c1'] at this;exact this)
                      have HPL:=Aside0.mk (show ∀ W,_ from fun W=>plusBadS W s)
                      have HRN:=Aside0.mk (HFail.out (by rw [HCO.out,if_neg (fun h=>c1 h.1)]))
                      clear c1 c1'
                      obtain ⟨flag,hflag⟩:∃ b:Nat,b=0:=⟨0,rfl⟩
                      go_wp2_with (first
                        | (go_at_call 141;clear hflag;refine (HZ.out _).mono ?_;rintro e w5 ⟨rfl,hb⟩;have HB5:=Aside0.mk hb;have g0:=(HF10.out.below hb).c0;have g1:=(HF10.out.below hb).c1;clear hb)
                        | (go_at_call 141;refine (HZ2.out _).mono ?_;rintro e w6 ⟨rfl,hb⟩;have HB6:=Aside0.mk (qh_ HB5.out hb);have k0:=(HF9.out.below HB6.out).c0;have k1:=(HF9.out.below HB6.out).c1;have k2:=(HF10.out.below HB6.out).c0;have k3:=(HF10.out.below HB6.out).c1;clear hb)
                        | (go_at_call 178;refine (HTM2.out _).mono ?_;rintro e w7 ⟨rfl,hb⟩;have HB7:=Aside0.mk (qh_ HB6.out hb);have S:=HS4.out.below HB7.out;have e0:(w7.alloc (.cells #[.int .i64 0,.int .i64 0] 77)).cell? ⟨w3.heap.size,0,none⟩=some (.int .i64 s.f0):=(S.alloc _).c0;have e1:(w7.alloc (.cells #[.int .i64 0,.int .i64 0] 77)).cell? ⟨w3.heap.size,1,none⟩=some (.int .i64 s.f1):=(S.alloc _).c1;clear S hb)
                        | (go_at_call 187;refine (HPL.out _).mono ?_;rintro e w8 ⟨rfl,hb⟩;have HB8:=Aside0.mk (qh_ HB7.out (qh_ (qb_ (Below.refl _ _) _) hb));have S:=(HIj.out.below (qh_ HM4.out HB8.out)).sr;have e2:(w8.alloc (.cells #[.int .i64 0,.int .i64 0] 77)).cell? ⟨w.heap.size+1+1,0,none⟩=some (.int .i64 0):=(S.alloc _).c0;have e3:(w8.alloc (.cells #[.int .i64 0,.int .i64 0] 77)).cell? ⟨w.heap.size+1+1,1,none⟩=some (.int .i64 0):=(S.alloc _).c1;have e4:(w8.alloc (.cells #[.int .i64 0,.int .i64 0] 77)).cell? ⟨w.heap.size+1+1,2,none⟩=some (.slice none 0 0):=(S.alloc _).c2;have ef2:(w8.alloc (.cells #[.int .i64 0,.int .i64 0] 77)).frozen? ⟨w.heap.size+1+1,0,none⟩=false:=qd_ (S.alloc (.cells #[.int .i64 0,.int .i64 0] 77)) 0;have ef3:(w8.alloc (.cells #[.int .i64 0,.int .i64 0] 77)).frozen? ⟨w.heap.size+1+1,1,none⟩=false:=qd_ (S.alloc (.cells #[.int .i64 0,.int .i64 0] 77)) 1;have ef4:(w8.alloc (.cells #[.int .i64 0,.int .i64 0] 77)).frozen? ⟨w.heap.size+1+1,2,none⟩=false:=qd_ (S.alloc (.cells #[.int .i64 0,.int .i64 0] 77)) 2;have HS8:=Aside0.mk S;have HBW:=Aside0.mk ((HIj.out.below (qh_ HM4.out HB8.out)).be);clear S hb))
                      refine bodyPost_ret (results_ct rfl _ _ (w.heap.size+2) 38 _ (0,0) _ rfl (qh1_ (qh1_ (qh1_ (HS8.out.alloc _) 0 _) 1 _) 2 _) hu rfl (by kernel_rfl)) rfl ?_
                      rw [HRN.out]
                      exact ⟨_,rfl,Kd.R_nil _ _ _ _ _,(((qb_ HBW.out _).setCell (Nat.le_add_right _ 2) _).setCell (Nat.le_add_right _ 2) _).setCell (Nat.le_add_right _ 2) _⟩
            · have hjz:¬ (j:Int)≤(l.length:Int):=by omega
              obtain rfl:j=l.length+1:=by omega
              have s0:=HF.out.c0
              have s1:=HF.out.c1
              have HWO:=Aside0.mk (show wordO t u l=some s from HC.out)
              have HOS:=Aside0.mk (cutsO_ok HC.out)
              have HIj:=Aside0.mk (HI3.out.below HBj.out)
              have HP2:=Aside0.mk (show prodO t u (wordsU d m ++ (wordsN d m).take (i+1)) (some [])=some (acc ++ (if s.f0=0 then [] else [⟨encW l,s⟩])) from by
                rw [List.take_succ_eq_append_getElem hil,← HLL.out,← List.append_assoc]
                exact prodO_snoc t u _ l HP.out HWO.out)
              by_cases cs:s.f0=0
              · have HZ:=Aside0.mk (show ∀ W,Calls Try.prog 141 #[.agg #[.int .i64 s.f0,.int .i64 s.f1]] W fun e w'=>e=.returned (.bool true)∧Below W.heap.size W w' from fun W=>by have:=zeroS W s;rwa [show (s.f0 == 0)=true from by rw [cs];rfl] at this)
                have hp2:=HP2.out
                rw [if_pos cs,List.append_nil] at hp2
                have HP3:=Aside0.mk hp2
                clear cs hp2
                go_wp2_with (go_at_call 141;refine (HZ.out _).mono ?_;rintro e w5 ⟨rfl,hb⟩;have HB5:=Aside0.mk hb;clear hb)
                go_roundg ((wordsN d m).length - (i+1))
                case measure=>omega
                case rel=>exact ⟨i+1,vo,acc,by omega,by omega,by have:=hlen.out;first|rfl|(rw [w64 (by omega) (by omega)];rfl),⟨HIj.out.below HB5.out⟩,HP3,⟨_,((HW3.out.below HBj.out).below HB5.out)⟩⟩
              · have HZ:=Aside0.mk (show ∀ W,Calls Try.prog 141 #[.agg #[.int .i64 s.f0,.int .i64 s.f1]] W fun e w'=>e=.returned (.bool false)∧Below W.heap.size W w' from fun W=>by have:=zeroS W s;rwa [show (s.f0 == 0)=false from by simpa using cs] at this)
                have hp2:=HP2.out
                rw [if_neg cs] at hp2
                have HP3:=Aside0.mk hp2
                clear cs hp2
                go_wp2_with (go_at_call 141;refine (HZ.out _).mono ?_;rintro e w5 ⟨rfl,hb⟩;have HI5:=Aside0.mk (HIj.out.below hb);have HW5:=Aside0.mk ((HW3.out.below HBj.out).below hb);have S:=HF.out.below hb;have s0:=S.c0;have s1:=S.c1;have r0:=qt_ hb hxj;have v2:=HI5.out.so.c2;clear S hb)
                have v3:(w5.alloc (.cells #[.string (encW l),.int .i64 s.f0,.int .i64 s.f1] 79)).cell? ⟨w1.heap.size,2,none⟩=some vo:=(HI5.out.so.alloc _).c2
                have HAL:=Aside0.mk (show acc.length≤1000000 from by
                  have h1:=prodO_len t u _ _ _ HP.out
                  obtain ⟨r,hr⟩:=wordsU_le d (show m≤n+1 by have:=HML.out;omega)
                  rw [wordsU_D] at hr
                  have h2:=wordsD_small d n HS.out.d3 HS.out.n8
                  rw [hr,List.length_append] at h2
                  have h3:=hlen.out
                  rw [List.length_append,List.length_take,List.length_nil] at h1
                  omega)
                refine wp_region_noPanic ?_
                go_region_law ((refine Kd.R_append_step k79 w.heap.size rfl (.tmp 92) (.tmp 99) 24 79 (.agg #[(.string ⟨#[]⟩),(.int .i64 0),(.int .i64 0)]) 32 rfl Try.underlying24 info79' rfl (by decide) (by omega) vo acc ⟨encW l,s⟩ [.string (encW l),.int .i64 s.f0,.int .i64 s.f1] (fun _=>True) (fun k=>some k ≠ vo.ownBlock) rfl rfl (k79_mkM _ _ _ ⟨encW l,s⟩) (fun _ h=>⟨trivial,h⟩) (fun _ _=>trivial) (Kd.R_drew HI5.out.ro) (qc_ HI5.out.be) HI5.out.be.size (by have:=HAL.out;omega) ?_;intro v6 w6 ho hb hg hat;have SO:=HI5.out.so.drew.grown hg (Kd.R_ne (Kd.R_drew HI5.out.ro) HI5.out.so.drew (by decide));have SX:=HI5.out.sx.drew.grown hg (Kd.R_ne (Kd.R_drew HI5.out.ro) HI5.out.sx.drew (by decide));have SY:=HI5.out.sy.drew.grown hg (Kd.R_ne (Kd.R_drew HI5.out.ro) HI5.out.sy.drew (by decide));have SR:=HI5.out.sr.drew.grown hg (Kd.R_ne (Kd.R_drew HI5.out.ro) HI5.out.sr.drew (by decide));obtain ⟨A6,c6,rfl⟩:=Kd.qg2_ ho;have HR6:=Aside0.mk ho;have HB6:=Aside0.mk hb;have HW6:=Aside0.mk (WordsAt.grown (Kd.R_drew HW5.out) (Kd.R_drew HI5.out.ro) hg);have u0:=SO.c2;have u1:=qd_ SO 2;have HSO:=Aside0.mk SO;have HSX:=Aside0.mk SX;have HSY:=Aside0.mk SY;have HSR:=Aside0.mk SR;clear SO SX SY SR ho hb hg hat))
                all_goals
                  refine NoPanic.normal ?_
                  go_wp2
                  go_roundg ((wordsN d m).length - (i+1))
                  case measure=>omega
                  case rel =>
                    have hlo:=HI5.out.lo
                    refine ⟨i+1,_,acc ++ [⟨encW l,s⟩],by omega,by omega,by have:=hlen.out;first|rfl|(rw [w64 (by omega) (by omega)];rfl),⟨⟨?_,?_,?_,HSO.out.put _,?_,?_,hlo⟩⟩,HP3,⟨_,Kd.R_set HW6.out HSO.out (by decide) 2 _⟩⟩
                    · exact HSX.out.far (by simp;omega) _
                    · exact HSY.out.far (by simp;omega) _
                    · exact HSR.out.far (by simp;omega) _
                    · have hh:=HR6.out
                      rw [List.length_append,List.length_singleton] at hh
                      exact Kd.R_set hh HSO.out (by decide) 2 _
                    · exact HB6.out.setCell (by simp;omega) _
        · have hiz:¬ (i:Int) < ((wordsN d m).length:Int):=by omega
          obtain rfl:i=(wordsN d m).length:=by omega
          have hp:=HP.out
          rw [List.take_length] at hp
          have HP2:=Aside0.mk (show prodO t u (wordsU d (m+1)) (some [])=some acc from hp)
          clear hp
          go_wp2
          go_roundg (n+1 - (m+1))
          case measure=>omega
          case rel=>exact ⟨m+1,vo,acc,by have:=HML.out;omega,by omega,by have:=HML.out;have:=HS.out.n8;first|rfl|(rw [w64 (by omega) (by omega)];rfl),HI,HP2⟩
    · have hz:¬ (m:Int)≤(n:Int):=by omega
      obtain rfl:m=n+1:=by omega
      have hp:=HP.out
      rw [wordsU_D] at hp
      have HRS:=Aside0.mk (show R=some acc from HRR.out.trans hp)
      obtain ⟨Av,cv,rfl⟩:=Kd.qg2_ HI.out.ro
      have z0:=HI.out.sx.c0
      have z1:=HI.out.sx.c1
      have y0:=HI.out.so.c0
      have y1:=HI.out.so.c1
      have y2:=HI.out.so.c2
      have x0:=HI.out.sr.c0
      have x1:=HI.out.sr.c1
      have x2:=HI.out.sr.c2
      have f0:=qd_ HI.out.sr 0
      have f1:=qd_ HI.out.sr 1
      have f2:=qd_ HI.out.sr 2
      have x0':wr.cell? ⟨w.heap.size+1+1,0,none⟩=some (.int .i64 0):=x0
      have x1':wr.cell? ⟨w.heap.size+1+1,1,none⟩=some (.int .i64 0):=x1
      have x2':wr.cell? ⟨w.heap.size+1+1,2,none⟩=some (.slice none 0 0):=x2
      have f0':wr.frozen? ⟨w.heap.size+1+1,0,none⟩=false:=f0
      have f1':wr.frozen? ⟨w.heap.size+1+1,1,none⟩=false:=f1
      have f2':wr.frozen? ⟨w.heap.size+1+1,2,none⟩=false:=f2
      clear hp
      go_wp2
      refine bodyPost_ret (results_ct rfl _ _ (w.heap.size+2) 38 _ (0,0) _ rfl (qh1_ (qh1_ (qh1_ HI.out.sr 0 _) 1 _) 2 _) hu rfl (by kernel_rfl)) rfl ?_
      rw [HRS.out]
      refine ⟨_,rfl,?_,((HI.out.be.setCell (Nat.le_add_right _ 2) _).setCell (Nat.le_add_right _ 2) _).setCell (Nat.le_add_right _ 2) _⟩
      exact Kd.R_set (Kd.R_set (Kd.R_set HI.out.ro HI.out.sr (by decide) 0 _) (qh1_ HI.out.sr 0 _) (by decide) 1 _) (qh1_ (qh1_ HI.out.sr 0 _) 1 _) (by decide) 2 _
end Go.Proofs.Ytaiefdhenikiiaa.Base
namespace Go.Proofs.Ytaiefdhenikiiaa.Base
open Go.RowKit Go.Proofs.YtaiefdhenikiiaaW.PrintWords Go.Proofs.YtaiefdhenikiiaaW.PrintLast Go.Proofs.YtaiefdhenikiiaaW.PrintMore
set_option linter.unusedVariables false
set_option linter.unusedSimpArgs false
theorem tk_lt {α:Type} (p:α→Bool):∀ (x:List α) (i:Nat) (h:i < (x.takeWhile p).length),∃ hx:i < x.length,p x[i]=true
  | [],i,h=>by simp at h
  | y :: x,i,h=>by
    by_cases c:p y=true
    · rw [List.takeWhile_cons_of_pos c] at h
      cases i with
      | zero=>exact ⟨by simp,by simpa using c⟩
      | succ i =>
        obtain ⟨h1,h2⟩:=tk_lt p x i (by simpa using h)
        exact ⟨by simpa using h1,by simpa using h2⟩
    · rw [List.takeWhile_cons_of_neg c] at h;simp at h
theorem tk_at {α:Type} (p:α→Bool):∀ (x:List α) (h:(x.takeWhile p).length < x.length),p x[(x.takeWhile p).length]=false
  | [],h=>by simp at h
  | y :: x,h=>by
    by_cases c:p y=true
    · have e:(y :: x).takeWhile p=y :: x.takeWhile p:=List.takeWhile_cons_of_pos c
      have h2:(x.takeWhile p).length < x.length:=by rw [e] at h;simpa using h
      have:=tk_at p x h2
      simp only [e,List.length_cons,List.getElem_cons_succ]
      exact this
    · have e:(y :: x).takeWhile p=[]:=List.takeWhile_cons_of_neg c
      simp only [e,List.length_nil,List.getElem_cons_zero]
      simpa using c
theorem befS (W:World) (u v:ByteArray) (b:Bool) (h:befW u v=b):Calls Try.prog 152 #[.string u,.string v] W fun e w'=>e=.returned (.bool b)∧Below W.heap.size W w':=by
  have hh:qz1_.f u v=some b:=by
    rw [← h]
    unfold qz1_.f befW
    by_cases c:(u.size:Int)=(v.size:Int)
    · rw [if_pos c,if_neg (by simpa using c)]
    · rw [if_neg c,if_pos c]
  refine (qz1_.calls _ _ b _ hh).mono ?_
  rintro e w' ⟨rfl,hd⟩
  exact ⟨rfl,hd.below⟩
theorem keepB4 {w W:World} {a1 a2 a3 a4:Addr} {v1 v2 v3 v4:Value} (p1:w.cell? a1=some v1) (p2:w.cell? a2=some v2) (p3:w.cell? a3=some v3) (p4:w.cell? a4=some v4) (hb:Below w.heap.size w W) :
    W.cell? a1=some v1∧W.cell? a2=some v2∧W.cell? a3=some v3∧W.cell? a4=some v4 :=
  ⟨qt_ hb p1,qt_ hb p2,qt_ hb p3,qt_ hb p4⟩
theorem FrAt.put4 {w:World} {b:Nat} {s:S77} (h:FrAt w b s) (a:S77):FrAt ((w.setCell ⟨b,0,none⟩ (.int .i64 a.f0)).setCell ⟨b,1,none⟩ (.int .i64 a.f1)) b a:=qh1_ (qh1_ h 0 _) 1 _
set_option maxHeartbeats 32000000 in
set_option maxRecDepth 100000 in
theorem putH (w:World) {A:Option Addr} {c:Nat} {l:List S79} (H:TmsC w A c l) (hl:okL l) (s:ByteArray) {a:S77} (ha:okF a):Calls Try.prog 158 #[.slice A l.length c,.string s,.agg #[.int .i64 a.f0,.int .i64 a.f1]] w fun e w'=>∃ v:Value,e=.returned (.tuple #[v,.bool (tellL (putL l s a)).2])∧TermsR w' w.heap.size v (tellL (putL l s a)).1∧Below w.heap.size w w':=by
  have hu3:=Try.underlying77
  have HA:=Aside0.mk H
  have HOL:=Aside0.mk hl
  have HOA:=Aside0.mk ha
  obtain ⟨i79,hi79,_,hsz79,_⟩:=info_parts info79
  obtain ⟨R,hR⟩:∃ R,R=tellL (putL l s a):=⟨_,rfl⟩
  rw [← hR]
  obtain ⟨P,hP⟩:∃ P,P=putAt l s:=⟨_,rfl⟩
  have HPL:=Aside0.mk (show P≤l.length by rw [hP];exact (List.takeWhile_sublist _).length_le)
  have HB1:=Aside0.mk (show ∀ i,i < P→∃ h:i < l.length,befW l[i].f0 s=true from fun i hi=>tk_lt (fun y:S79=>befW y.f0 s) l i (by rw [hP] at hi;exact hi))
  have HB2:=Aside0.mk (show ∀ h:P < l.length,befW l[P].f0 s=false from fun h=>by subst hP;exact tk_at (fun y:S79=>befW y.f0 s) l h)
  have HN:=Aside0.mk (show l[P]?=none→R=(l.take P ++ (if a.f0=0 then [] else [⟨s,a⟩]) ++ l.drop P,true) from fun h=>by
    rw [hR];unfold putL;rw [← hP,h];rfl)
  have HS1:=Aside0.mk (show ∀ (h:P < l.length),¬ l[P].f0=s→R=(l.take P ++ (if a.f0=0 then [] else [⟨s,a⟩]) ++ l.drop P,true) from fun h hn=>by
    rw [hR];unfold putL;rw [← hP,List.getElem?_eq_getElem h];simp only [if_neg hn];rfl)
  have HS2:=Aside0.mk (show ∀ (h:P < l.length),l[P].f0=s→(plusM l[P].f1 a).2=true→R=(l.take P ++ (if (plusM l[P].f1 a).1.f0=0 then [] else [⟨s,(plusM l[P].f1 a).1⟩]) ++ l.drop (P+1),true) from fun h hn h2=>by
    rw [hR];unfold putL;rw [← hP,List.getElem?_eq_getElem h];simp only [if_pos hn,if_pos h2];rfl)
  have HS3:=Aside0.mk (show ∀ (h:P < l.length),l[P].f0=s→(plusM l[P].f1 a).2=false→R=([],false) from fun h hn h2=>by
    rw [hR];unfold putL;rw [← hP,List.getElem?_eq_getElem h];simp only [if_pos hn,h2,Bool.false_eq_true,if_false];rfl)
  have HDR:=Aside0.mk (show ∀ q:Nat,q≤l.length→∃ (A2:Option Addr) (c2:Nat),(∀ W:World,(Instr.slice 24 (.slice A l.length c) (some (.int .i64 (q:Int))) none none).run Try.prog W=.ok (.slice A2 (l.drop q).length c2) W)∧Kd.C k79 w A2 (l.drop q).length (l.drop q) from fun q hq=>by
    have h1:=cut_from (P:=Try.prog) 24 79 .i64 Try.underlying24 hi79 3 hsz79 A l.length c (q:Int) (by omega) (by omega)
    have h2:=Kd.C_drop (m:=q) H.row hq H.cap
    rw [Int.toNat_natCast,← List.length_drop] at h1
    exact ⟨_,_,h1,h2⟩)
  have HCT:=Aside0.mk (show ∀ q:Nat,q≤l.length→∀ W:World,(Instr.slice 24 (.slice A l.length c) none (some (.int .i64 (q:Int))) none).run Try.prog W=.ok (.slice A (l.take q).length c) W from fun q hq=>by
    have h1:=cut_to (P:=Try.prog) 24 79 .i64 Try.underlying24 hi79 A l.length c (q:Int) (by omega) (by omega) H.cap
    rw [show (l.take q).length=q by rw [List.length_take];omega]
    rwa [Int.toNat_natCast] at h1)
  clear H hl ha hR hP
  go_enter Try.func158,Try.ntmps158
  go_wp2
  generalize hW:World.alloc _ _=W0
  have HF0:=Aside0.mk (show FrAt W0 w.heap.size a from by rw [← hW];exact FrAt.new _ _)
  have HB0:=Aside0.mk (show Below w.heap.size w W0 from by rw [← hW];exact qb_ (Below.refl _ _) _)
  clear hW
  go_loopg [8] (P+1) (fun gg v8 wr=>∃ i:Nat,i≤P∧P+1 - i≤gg∧v8=.int .i64 i∧Aside0 (Below W0.heap.size W0 wr))
  case atStart=>exact ⟨0,Nat.zero_le _,by omega,rfl,⟨Below.refl _ _⟩⟩
  case round =>
    obtain ⟨i,hi,hg,rfl,HBr⟩:=hrel
    have HBw:=Aside0.mk (qh_ HB0.out HBr.out)
    by_cases hip:i < P
    · obtain ⟨hlt,hbe⟩:=HB1.out i hip
      have hltz:(i:Int) < (l.length:Int):=by omega
      obtain ⟨ad,rfl,t0,t1,t2⟩:=at_T79 (Kd.qv1_ HA.out.row HBw.out) (i:Int) (by omega) (by omega)
      have e1:rd_T79 l (i:Int)=l[i]:=by simp [rd_T79,List.getD_eq_getElem?_getD,List.getElem?_eq_getElem hlt]
      rw [e1,Int.toNat_natCast] at t0 t1 t2
      have HBE:=Aside0.mk hbe
      have HPB:=Aside0.mk (show l.length≤1048576 from HA.out.len)
      clear hbe e1
      go_wp2_with (go_at_call 152;refine (befS _ _ _ true HBE.out).mono ?_;rintro e w1 ⟨rfl,hb⟩;have HBn:=Aside0.mk (qh_ HBr.out hb);clear hb)
      go_roundg (P+1 - (i+1))
      case measure=>omega
      case rel=>exact ⟨i+1,by omega,by omega,by have:=HPB.out;first|rfl|(rw [w64 (by omega) (by omega)];rfl),HBn⟩
    · obtain rfl:i=P:=by omega
      have hpl:=HPL.out
      have hpz:(i:Int)≤(l.length:Int):=by omega
      have hcut1:=HCT.out i hpl
      obtain ⟨tl,htl⟩:∃ x,x=l.take i:=⟨_,rfl⟩
      rw [← htl] at hcut1
      have HTL:=Aside0.mk (show Kd.C k79 w A tl.length tl from by rw [htl];exact Kd.C_take HA.out.row hpl)
      have HTLL:=Aside0.mk (show tl.length≤1048576 from by rw [htl,List.length_take];have:=HA.out.len;omega)
      have HTE:=Aside0.mk htl
      clear htl
      have HFr:=Aside0.mk (HF0.out.below HBr.out)
      by_cases hlt:i < l.length
      · have hltz:(i:Int) < (l.length:Int):=by omega
        obtain ⟨ad,hA1,t0,t1,t2⟩:=at_T79 (Kd.qv1_ HA.out.row HBw.out) (i:Int) (by omega) (by omega)
        subst hA1
        have e1:rd_T79 l (i:Int)=l[i]:=by simp [rd_T79,List.getD_eq_getElem?_getD,List.getElem?_eq_getElem hlt]
        rw [e1,Int.toNat_natCast] at t0 t1 t2
        have HBE:=Aside0.mk (HB2.out hlt)
        have HT0:=Aside0.mk (show ∀ W,Below w.heap.size w W→W.cell? (ad.add (i * 3))=some (.string l[i].f0)∧W.cell? ⟨(ad.add (i * 3)).block,(ad.add (i * 3)).off+1,none⟩=some (.int .i64 l[i].f1.f0)∧W.cell? ⟨(ad.add (i * 3)).block,(ad.add (i * 3)).off+2,none⟩=some (.int .i64 l[i].f1.f1) from fun W hW=>by
          obtain ⟨ad2,hA2,u0,u1,u2⟩:=at_T79 (Kd.qv1_ HA.out.row hW) (i:Int) (by omega) (by omega)
          obtain rfl:=Option.some.inj hA2
          rw [e1,Int.toNat_natCast] at u0 u1 u2
          exact ⟨u0,u1,u2⟩)
        clear e1
        by_cases ceq:l[i].f0=s
        · have ceq2:(l[i].f0.toList == s.toList)=true:=by rw [ceq];simp
          obtain ⟨z,hz⟩:∃ z,z=l[i].f1:=⟨_,rfl⟩
          have HOZ:=Aside0.mk (show okF z by rw [hz];exact HOL.out _ (List.getElem_mem hlt))
          have HT:=Aside0.mk (HS2.out hlt ceq)
          have HT3:=Aside0.mk (HS3.out hlt ceq)
          rw [← hz] at HT HT3 HT0 t1 t2
          clear hz ceq
          go_wp2_with (first
            | (go_at_call 152;refine (befS _ _ _ false HBE.out).mono ?_;rintro e w1 ⟨rfl,hb⟩;have HBQ:=Aside0.mk (qh_ HBw.out hb);have HFQ:=Aside0.mk (FrAt.below HFr.out hb);clear hb)
            | ((with_reducible refine qx_ (N:=27) rfl ?_);refine Kd.R_lit k79 _ 79 ?hg (N:=27) ?hd (xs:=([]:List S79)) (inner:=[]) (ok:=fun _=>True) (okp:=fun _=>True) ?hr ?hp (fun _ hk=>hk) trivial (Below.refl _ _) (Nat.le_refl _) (by simp) ?_;(case hd=>rfl);(case hg=>rfl);(case hr=>first|(go_simp;done)|(go_simp;rfl));(case hp=>exact (Reps.none _ _));intro v3 w3 ho hb hg hnew;clear hg hnew;have HF3:=Aside0.mk (FrAt.below HFQ.out hb);have HB3:=Aside0.mk (qh_ HBQ.out hb);have HO3:=Aside0.mk (show TermsR w3 w.heap.size v3 [] from Kd.qn2_ ho HBQ.out.size);clear ho hb)
            | ((with_reducible refine qd2_ (b:=.append) (xs:=#[.tmp 27,.tmp 30]) rfl ?_);at_builtin;refine Kd.qq2_ k79 (w0:=w) w.heap.size rfl (.tmp 27) (.tmp 30) 24 79 (.agg #[(.string ⟨#[]⟩),(.int .i64 0),(.int .i64 0)]) 32 rfl Try.underlying24 info79' rfl (by decide) (by omega) v3 ([]:List S79) tl _ _ _ (fun _=>True) (fun _=>False) rfl rfl ?aO ?aR (fun _ _ h=>h) (fun _ h=>h.elim) ?aF ?aB ?aS ?aL ?_;(case aR=>exact Kd.qv1_ HTL.out HB3.out);(case aB=>exact HB3.out);(case aF=>exact (fun _ _=>trivial));(case aO=>exact HO3.out);(case aS=>exact qk_ HB3.out);(case aL=>have:=HTLL.out;rw [List.length_nil];omega);intro v4 w4 ho hb hg hat;rw [List.nil_append,HTE.out] at ho;have HF4:=Aside0.mk (show FrAt w4 w.heap.size a from qc3_ HF3.out hg (Kd.R_ne HO3.out HF3.out (by decide)));have HB4:=Aside0.mk hb;have HO4:=Aside0.mk ho;have x0:=HF4.out.c0;have x1:=HF4.out.c1;obtain ⟨u0,u1,u2⟩:=HT0.out _ HB4.out;clear ho hb hg hat))
          obtain ⟨f,hf⟩:∃ f,f=tellF (plusM z a):=⟨_,rfl⟩
          obtain ⟨ok,hok⟩:∃ ok,ok=(plusM z a).2:=⟨_,rfl⟩
          have HTM:=Aside0.mk (show ∀ W,Calls Try.prog 187 #[.agg #[.int .i64 z.f0,.int .i64 z.f1],.agg #[.int .i64 a.f0,.int .i64 a.f1]] W fun e w'=>e=.returned (.tuple #[.agg #[.int .i64 f.f0,.int .i64 f.f1],.bool ok])∧Below W.heap.size W w' from fun W=>by rw [hf,hok];exact plusFS W HOZ.out HOA.out)
          have HFF:=Aside0.mk hf
          have HOK:=Aside0.mk hok
          clear hf hok t0 t1 t2
          obtain ⟨w5,hw5⟩:∃ x,x=w4:=⟨_,rfl⟩
          go_cut [10,11] (fun v10 v11 wx=>∃ b9:Nat,v10=.pointer (some ⟨b9,0,none⟩)∧v11=.bool ok∧Aside0 (FrAt wx b9 f)∧Aside0 (Below w4.heap.size w4 wx)∧Aside0 (w4.heap.size≤b9))
          case first =>
            go_region_held3 (fun w'=>w'.cell? ⟨(ad.add (i * 3)).block,(ad.add (i * 3)).off+1,none⟩=some (.int .i64 z.f0)∧w'.cell? ⟨(ad.add (i * 3)).block,(ad.add (i * 3)).off+2,none⟩=some (.int .i64 z.f1)∧w'.cell? ⟨w.heap.size,0,none⟩=some (.int .i64 a.f0)∧w'.cell? ⟨w.heap.size,1,none⟩=some (.int .i64 a.f1)) (exact keepB4 u1 u2 x0 x1 (by (repeat' (first|(with_reducible exact Below.refl _ _)|(with_reducible exact HB6.out)|(with_reducible refine Below.setCell ?_ ?_ _)|(with_reducible refine qc_ ?_)|(with_reducible refine qa_ ?_ _)|(with_reducible refine qb_ ?_ _)|(simp;done)|(simp;omega)|(have:=HB6.out.size;simp;omega))))) (first|(go_at_call 187;refine (HTM.out _).mono ?_;rintro e w6 ⟨rfl,hb⟩;have HB6:=Aside0.mk (show Below w4.heap.size w4 w6 from qh_ (by repeat (first|(with_reducible exact Below.refl _ _)|(with_reducible refine qc_ ?_)|(with_reducible refine qa_ ?_ _)|(with_reducible refine qb_ ?_ _))) hb);first|(refine (fun (Z:w6.heap[w4.heap.size]?=some (.cells #[.int .i64 0,.int .i64 0] 77 (0,0)))=>?_) (qm_ ?_ hb);rotate_left;(first|exact drew_at (new_at rfl)|exact new_at rfl);have HZZ:=Aside0.mk Z;have z0:=qg_ Z 0;have z1:=qg_ Z 1;have zf0:=qd_ Z 0;have zf1:=qd_ Z 1;clear Z hb)|(clear hb)))
            all_goals
              go_wp2_with fail
              go_meet
              case rel =>
                refine ⟨_,rfl,rfl,⟨?_⟩,⟨?_⟩,⟨?_⟩⟩
                · (repeat' (first|((with_reducible refine FrAt.new' ?_ _);simp;done)|(with_reducible refine FrAt.put2 ?_ _)|(with_reducible exact HZZ.out)|(with_reducible refine FrAt.drewN ?_ _)|(with_reducible refine FrAt.drew ?_)|(with_reducible refine FrAt.alloc ?_ _)|((with_reducible refine FrAt.far ?_ ?_ _);rotate_left;(focus (first|(simp;done)|(simp;omega))))|(with_reducible refine drewN_at ?_)|(with_reducible refine drew_at ?_)|((with_reducible refine new_at ?_);simp;done)|(with_reducible refine old_at ?_)|((with_reducible refine qr1_ ?_ ?_ _);rotate_left;(focus (first|(simp;done)|(simp;omega))))))
                · (repeat' (first|(with_reducible exact Below.refl _ _)|(with_reducible exact HB6.out)|(with_reducible refine Below.setCell ?_ ?_ _)|(with_reducible refine qc_ ?_)|(with_reducible refine qa_ ?_ _)|(with_reducible refine qb_ ?_ _)|(simp;done)|(simp;omega)|(have:=HB6.out.size;simp;omega)))
                · (have h6_:=HB6.out.size;first|(simp;done)|(simp;omega)|omega)
          case rest =>
            obtain ⟨b9,rfl,rfl,HF9,HM9,HL9⟩:=hcut
            have HB9:=Aside0.mk (qh_ HB4.out HM9.out)
            have HO9:=Aside0.mk (Kd.qi2_ HO4.out HM9.out)
            have HA9:=Aside0.mk (HF4.out.below HM9.out)
            clear x0 x1 u0 u1 u2
            cases ok with
            | false =>
              have HV:=Aside0.mk (HT3.out HOK.out.symm)
              go_wp2
              go_returns
              rw [HV.out]
              exact ⟨_,rfl,Kd.R_nil _ _ _ _ _,HB9.out⟩
            | true =>
              have HV:=Aside0.mk (HT.out HOK.out.symm)
              have hfe:f=(plusM z a).1:=by rw [HFF.out];unfold tellF;rw [← HOK.out];rfl
              rw [← hfe] at HV
              have g0:=HF9.out.c0
              have g1:=HF9.out.c1
              have k0:=HA9.out.c0
              have k1:=HA9.out.c1
              have kf0:=qd_ HA9.out 0
              have kf1:=qd_ HA9.out 1
              obtain ⟨q,hq⟩:∃ q,q=i+1:=⟨_,rfl⟩
              have hqz:IntKind.i64.wrap ((i:Int)+1)=(q:Int):=by rw [i64_w,w64 (by omega) (by have:=HA.out.len;omega),hq];rfl
              have hqw:wrap64 ((i:Int)+1)=(q:Int):=by rw [w64 (by omega) (by have:=HA.out.len;omega),hq];rfl
              have hql:q≤l.length:=by omega
              rw [← hq] at HV
              clear hfe hq
              go_upto_region 11 with fail
              generalize hW:World.setCell (World.setCell wc _ _) _ _=W1
              have HFX:=Aside0.mk (show FrAt W1 w.heap.size f from by rw [← hW];exact FrAt.put4 HA9.out f)
              have HBX:=Aside0.mk (show Below w.heap.size w W1 from by rw [← hW];exact (HB9.out.setCell (Nat.le_refl _) _).setCell (Nat.le_refl _) _)
              have HOX:=Aside0.mk (show TermsR W1 w.heap.size v4 (l.take i) from by rw [← hW];exact Kd.R_set (Kd.R_set HO9.out HA9.out (by decide) 0 _) (qh1_ HA9.out 0 _) (by decide) 1 _)
              have x0:=HFX.out.c0
              have x1:=HFX.out.c1
              clear hW g0 g1 k0 k1 kf0 kf1
              obtain ⟨A2,c2,hcut2,hr2⟩:=HDR.out q (by omega)
              obtain ⟨rl,hrl⟩:∃ x,x=l.drop q:=⟨_,rfl⟩
              rw [← hrl] at hcut2 hr2
              have HR2:=Aside0.mk hr2
              have HRL:=Aside0.mk hrl
              have HRLL:=Aside0.mk (show rl.length≤1048576 by rw [hrl,List.length_drop];have:=HA.out.len;omega)
              clear hr2 hrl
              by_cases cz:f.f0=0
              · have HZ:=Aside0.mk (show ∀ W,Calls Try.prog 141 #[.agg #[.int .i64 f.f0,.int .i64 f.f1]] W fun e w'=>e=.returned (.bool true)∧Below W.heap.size W w' from fun W=>by have:=zeroS W f;rwa [show (f.f0 == 0)=true from by rw [cz];rfl] at this)
                have HV:=Aside0.mk (show R=(l.take i ++ rl,true) from by rw [HV.out,if_pos cz,List.append_nil,HRL.out])
                clear cz
                go_wp2_with (first
                  | (go_at_call 141;refine (HZ.out _).mono ?_;rintro e w8 ⟨rfl,hb⟩;have HB8:=Aside0.mk (qh_ HBX.out hb);have HO8:=Aside0.mk (Kd.qi2_ HOX.out hb);clear hb)
                  | ((with_reducible refine qd2_ (b:=.append) (xs:=#[.tmp 69,.tmp 72]) rfl ?_);at_builtin;refine Kd.qq2_ k79 (w0:=w) w.heap.size rfl (.tmp 69) (.tmp 72) 24 79 (.agg #[(.string ⟨#[]⟩),(.int .i64 0),(.int .i64 0)]) 32 rfl Try.underlying24 info79' rfl (by decide) (by omega) v4 (l.take i) rl _ _ _ (fun _=>True) (fun _=>False) rfl rfl ?aO ?aR (fun _ _ h=>h) (fun _ h=>h.elim) ?aF ?aB ?aS ?aL ?_;(case aR=>exact Kd.qv1_ HR2.out HB8.out);(case aB=>exact HB8.out);(case aF=>exact (fun _ _=>trivial));(case aO=>exact HO8.out);(case aS=>exact qk_ HB8.out);(case aL=>have:=HRLL.out;have:=HA.out.len;rw [List.length_take];omega);intro v9 w9 ho hb hg hat;have HB9:=Aside0.mk hb;have HO9:=Aside0.mk ho;clear ho hb hg hat))
                go_returns
                rw [HV.out]
                exact ⟨_,rfl,HO9.out,HB9.out⟩
              · have HZ:=Aside0.mk (show ∀ W,Calls Try.prog 141 #[.agg #[.int .i64 f.f0,.int .i64 f.f1]] W fun e w'=>e=.returned (.bool false)∧Below W.heap.size W w' from fun W=>by have:=zeroS W f;rwa [show (f.f0 == 0)=false from by simpa using cz] at this)
                have HV:=Aside0.mk (show R=(l.take i ++ [⟨s,f⟩] ++ rl,true) from by rw [HV.out,if_neg cz,HRL.out])
                clear cz
                go_wp2_with (first
                  | (go_at_call 141;refine (HZ.out _).mono ?_;rintro e w8 ⟨rfl,hb⟩;have HB8:=Aside0.mk (qh_ HBX.out hb);have HO8:=Aside0.mk (Kd.qi2_ HOX.out hb);have F8:=FrAt.below HFX.out hb;have y0:=F8.c0;have y1:=F8.c1;clear F8 hb)
                  | ((with_reducible refine qd2_ (b:=.append) (xs:=#[.tmp 63,.tmp 67]) rfl ?_);at_builtin;refine Kd.R_append k79 (w0:=w) w.heap.size rfl (.tmp 63) (.tmp 67) 24 79 (.agg #[(.string ⟨#[]⟩),(.int .i64 0),(.int .i64 0)]) 32 rfl Try.underlying24 info79' rfl (by decide) (by omega) v4 (l.take i) ⟨s,f⟩ [.string s,.int .i64 f.f0,.int .i64 f.f1] (fun _=>True) (fun _=>False) rfl rfl ?aP (fun _ hk=>hk.elim) ?aF ?aO ?aB ?aS ?aL ?_;(case aP=>exact k79_mkM _ _ _ ⟨s,f⟩);(case aB=>exact HB8.out);(case aF=>exact (fun _ _=>trivial));(case aO=>exact HO8.out);(case aS=>exact (qk_ HB8.out));(case aL=>have:=HA.out.len;rw [List.length_take];omega);intro v7 w7 ho hb hg hat;have HB7:=Aside0.mk hb;have HO7:=Aside0.mk ho;clear ho hb hg hat)
                  | ((with_reducible refine qd2_ (b:=.append) (xs:=#[.tmp 69,.tmp 72]) rfl ?_);at_builtin;refine Kd.qq2_ k79 (w0:=w) w.heap.size rfl (.tmp 69) (.tmp 72) 24 79 (.agg #[(.string ⟨#[]⟩),(.int .i64 0),(.int .i64 0)]) 32 rfl Try.underlying24 info79' rfl (by decide) (by omega) v7 (l.take i ++ [⟨s,f⟩]) rl _ _ _ (fun _=>True) (fun _=>False) rfl rfl ?aO ?aR (fun _ _ h=>h) (fun _ h=>h.elim) ?aF ?aB ?aS ?aL ?_;(case aR=>exact Kd.qv1_ HR2.out HB7.out);(case aB=>exact HB7.out);(case aF=>exact (fun _ _=>trivial));(case aO=>exact HO7.out);(case aS=>exact qk_ HB7.out);(case aL=>have:=HRLL.out;have:=HA.out.len;rw [List.length_append,List.length_take,List.length_singleton];omega);intro v9 w9 ho hb hg hat;have HB9:=Aside0.mk hb;have HO9:=Aside0.mk ho;clear ho hb hg hat))
                all_goals
                  go_returns
                  rw [HV.out]
                  exact ⟨_,rfl,HO9.out,HB9.out⟩
        · have ceq2:(l[i].f0.toList == s.toList)=false:=by
            rw [beq_eq_false_iff_ne]
            intro h;rw [ByteArray.toList_eq,ByteArray.toList_eq] at h;exact ceq (ByteArray.ext (Array.toList_inj.1 h))
          have HV0:=Aside0.mk (HS1.out hlt ceq)
          clear ceq
          go_upto_region 11 with (first
            | (go_at_call 152;refine (befS _ _ _ false HBE.out).mono ?_;rintro e w1 ⟨rfl,hb⟩;have HBQ:=Aside0.mk (qh_ HBw.out hb);have HFQ:=Aside0.mk (FrAt.below HFr.out hb);clear hb)
            | ((with_reducible refine qx_ (N:=27) rfl ?_);refine Kd.R_lit k79 _ 79 ?hg (N:=27) ?hd (xs:=([]:List S79)) (inner:=[]) (ok:=fun _=>True) (okp:=fun _=>True) ?hr ?hp (fun _ hk=>hk) trivial (Below.refl _ _) (Nat.le_refl _) (by simp) ?_;(case hd=>rfl);(case hg=>rfl);(case hr=>first|(go_simp;done)|(go_simp;rfl));(case hp=>exact (Reps.none _ _));intro v3 w3 ho hb hg hnew;clear hg hnew;have HF3:=Aside0.mk (FrAt.below HFQ.out hb);have HB3:=Aside0.mk (qh_ HBQ.out hb);have HO3:=Aside0.mk (show TermsR w3 w.heap.size v3 [] from Kd.qn2_ ho HBQ.out.size);clear ho hb)
            | ((with_reducible refine qd2_ (b:=.append) (xs:=#[.tmp 27,.tmp 30]) rfl ?_);at_builtin;refine Kd.qq2_ k79 (w0:=w) w.heap.size rfl (.tmp 27) (.tmp 30) 24 79 (.agg #[(.string ⟨#[]⟩),(.int .i64 0),(.int .i64 0)]) 32 rfl Try.underlying24 info79' rfl (by decide) (by omega) v3 ([]:List S79) tl _ _ _ (fun _=>True) (fun _=>False) rfl rfl ?aO ?aR (fun _ _ h=>h) (fun _ h=>h.elim) ?aF ?aB ?aS ?aL ?_;(case aR=>exact Kd.qv1_ HTL.out HB3.out);(case aB=>exact HB3.out);(case aF=>exact (fun _ _=>trivial));(case aO=>exact HO3.out);(case aS=>exact qk_ HB3.out);(case aL=>have:=HTLL.out;rw [List.length_nil];omega);intro v4 w4 ho hb hg hat;rw [List.nil_append,HTE.out] at ho;have HF4:=Aside0.mk (show FrAt w4 w.heap.size a from qc3_ HF3.out hg (Kd.R_ne HO3.out HF3.out (by decide)));have HB4:=Aside0.mk hb;have HO4:=Aside0.mk ho;have x0:=HF4.out.c0;have x1:=HF4.out.c1;obtain ⟨u0,u1,u2⟩:=HT0.out _ HB4.out;clear ho hb hg hat))
          obtain ⟨A2,c2,hcut2,hr2⟩:=HDR.out i (by omega)
          obtain ⟨rl,hrl⟩:∃ x,x=l.drop i:=⟨_,rfl⟩
          rw [← hrl] at hcut2 hr2
          have HR2:=Aside0.mk hr2
          have HRL:=Aside0.mk hrl
          have HRLL:=Aside0.mk (show rl.length≤1048576 by rw [hrl,List.length_drop];have:=HA.out.len;omega)
          clear hr2 hrl
          by_cases cz:a.f0=0
          · have HZ:=Aside0.mk (show ∀ W,Calls Try.prog 141 #[.agg #[.int .i64 a.f0,.int .i64 a.f1]] W fun e w'=>e=.returned (.bool true)∧Below W.heap.size W w' from fun W=>by have:=zeroS W a;rwa [show (a.f0 == 0)=true from by rw [cz];rfl] at this)
            have HV:=Aside0.mk (show R=(l.take i ++ rl,true) from by rw [HV0.out,if_pos cz,List.append_nil,HRL.out])
            clear cz
            go_wp2_with (first
              | (go_at_call 141;refine (HZ.out _).mono ?_;rintro e w8 ⟨rfl,hb⟩;have HB8:=Aside0.mk (qh_ HB4.out hb);have HO8:=Aside0.mk (Kd.qi2_ HO4.out hb);clear hb)
              | ((with_reducible refine qd2_ (b:=.append) (xs:=#[.tmp 69,.tmp 72]) rfl ?_);at_builtin;refine Kd.qq2_ k79 (w0:=w) w.heap.size rfl (.tmp 69) (.tmp 72) 24 79 (.agg #[(.string ⟨#[]⟩),(.int .i64 0),(.int .i64 0)]) 32 rfl Try.underlying24 info79' rfl (by decide) (by omega) v4 (l.take i) rl _ _ _ (fun _=>True) (fun _=>False) rfl rfl ?aO ?aR (fun _ _ h=>h) (fun _ h=>h.elim) ?aF ?aB ?aS ?aL ?_;(case aR=>exact Kd.qv1_ HR2.out HB8.out);(case aB=>exact HB8.out);(case aF=>exact (fun _ _=>trivial));(case aO=>exact HO8.out);(case aS=>exact qk_ HB8.out);(case aL=>have:=HRLL.out;have:=HA.out.len;rw [List.length_take];omega);intro v9 w9 ho hb hg hat;have HB9:=Aside0.mk hb;have HO9:=Aside0.mk ho;clear ho hb hg hat))
            go_returns
            rw [HV.out]
            exact ⟨_,rfl,HO9.out,HB9.out⟩
          · have HZ:=Aside0.mk (show ∀ W,Calls Try.prog 141 #[.agg #[.int .i64 a.f0,.int .i64 a.f1]] W fun e w'=>e=.returned (.bool false)∧Below W.heap.size W w' from fun W=>by have:=zeroS W a;rwa [show (a.f0 == 0)=false from by simpa using cz] at this)
            have HV:=Aside0.mk (show R=(l.take i ++ [⟨s,a⟩] ++ rl,true) from by rw [HV0.out,if_neg cz,HRL.out])
            clear cz
            go_wp2_with (first
              | (go_at_call 141;refine (HZ.out _).mono ?_;rintro e w8 ⟨rfl,hb⟩;have HB8:=Aside0.mk (qh_ HB4.out hb);have HO8:=Aside0.mk (Kd.qi2_ HO4.out hb);have F8:=FrAt.below HF4.out hb;have y0:=F8.c0;have y1:=F8.c1;clear F8 hb)
              | ((with_reducible refine qd2_ (b:=.append) (xs:=#[.tmp 63,.tmp 67]) rfl ?_);at_builtin;refine Kd.R_append k79 (w0:=w) w.heap.size rfl (.tmp 63) (.tmp 67) 24 79 (.agg #[(.string ⟨#[]⟩),(.int .i64 0),(.int .i64 0)]) 32 rfl Try.underlying24 info79' rfl (by decide) (by omega) v4 (l.take i) ⟨s,a⟩ [.string s,.int .i64 a.f0,.int .i64 a.f1] (fun _=>True) (fun _=>False) rfl rfl ?aP (fun _ hk=>hk.elim) ?aF ?aO ?aB ?aS ?aL ?_;(case aP=>exact k79_mkM _ _ _ ⟨s,a⟩);(case aB=>exact HB8.out);(case aF=>exact (fun _ _=>trivial));(case aO=>exact HO8.out);(case aS=>exact (qk_ HB8.out));(case aL=>have:=HA.out.len;rw [List.length_take];omega);intro v7 w7 ho hb hg hat;have HB7:=Aside0.mk hb;have HO7:=Aside0.mk ho;clear ho hb hg hat)
              | ((with_reducible refine qd2_ (b:=.append) (xs:=#[.tmp 69,.tmp 72]) rfl ?_);at_builtin;refine Kd.qq2_ k79 (w0:=w) w.heap.size rfl (.tmp 69) (.tmp 72) 24 79 (.agg #[(.string ⟨#[]⟩),(.int .i64 0),(.int .i64 0)]) 32 rfl Try.underlying24 info79' rfl (by decide) (by omega) v7 (l.take i ++ [⟨s,a⟩]) rl _ _ _ (fun _=>True) (fun _=>False) rfl rfl ?aO ?aR (fun _ _ h=>h) (fun _ h=>h.elim) ?aF ?aB ?aS ?aL ?_;(case aR=>exact Kd.qv1_ HR2.out HB7.out);(case aB=>exact HB7.out);(case aF=>exact (fun _ _=>trivial));(case aO=>exact HO7.out);(case aS=>exact qk_ HB7.out);(case aL=>have:=HRLL.out;have:=HA.out.len;rw [List.length_append,List.length_take,List.length_singleton];omega);intro v9 w9 ho hb hg hat;have HB9:=Aside0.mk hb;have HO9:=Aside0.mk ho;clear ho hb hg hat))
            all_goals
              go_returns
              rw [HV.out]
              exact ⟨_,rfl,HO9.out,HB9.out⟩
      · have hltz:¬ (i:Int) < (l.length:Int):=by omega
        have HV0:=Aside0.mk (HN.out (List.getElem?_eq_none (by omega)))
        have HBQ:=HBw
        have HFQ:=HFr
        go_upto_region 11 with (first
          | ((with_reducible refine qx_ (N:=27) rfl ?_);refine Kd.R_lit k79 _ 79 ?hg (N:=27) ?hd (xs:=([]:List S79)) (inner:=[]) (ok:=fun _=>True) (okp:=fun _=>True) ?hr ?hp (fun _ hk=>hk) trivial (Below.refl _ _) (Nat.le_refl _) (by simp) ?_;(case hd=>rfl);(case hg=>rfl);(case hr=>first|(go_simp;done)|(go_simp;rfl));(case hp=>exact (Reps.none _ _));intro v3 w3 ho hb hg hnew;clear hg hnew;have HF3:=Aside0.mk (FrAt.below HFQ.out hb);have HB3:=Aside0.mk (qh_ HBQ.out hb);have HO3:=Aside0.mk (show TermsR w3 w.heap.size v3 [] from Kd.qn2_ ho HBQ.out.size);clear ho hb)
          | ((with_reducible refine qd2_ (b:=.append) (xs:=#[.tmp 27,.tmp 30]) rfl ?_);at_builtin;refine Kd.qq2_ k79 (w0:=w) w.heap.size rfl (.tmp 27) (.tmp 30) 24 79 (.agg #[(.string ⟨#[]⟩),(.int .i64 0),(.int .i64 0)]) 32 rfl Try.underlying24 info79' rfl (by decide) (by omega) v3 ([]:List S79) tl _ _ _ (fun _=>True) (fun _=>False) rfl rfl ?aO ?aR (fun _ _ h=>h) (fun _ h=>h.elim) ?aF ?aB ?aS ?aL ?_;(case aR=>exact Kd.qv1_ HTL.out HB3.out);(case aB=>exact HB3.out);(case aF=>exact (fun _ _=>trivial));(case aO=>exact HO3.out);(case aS=>exact qk_ HB3.out);(case aL=>have:=HTLL.out;rw [List.length_nil];omega);intro v4 w4 ho hb hg hat;rw [List.nil_append,HTE.out] at ho;have HF4:=Aside0.mk (show FrAt w4 w.heap.size a from qc3_ HF3.out hg (Kd.R_ne HO3.out HF3.out (by decide)));have HB4:=Aside0.mk hb;have HO4:=Aside0.mk ho;have x0:=HF4.out.c0;have x1:=HF4.out.c1; clear ho hb hg hat))
        obtain ⟨A2,c2,hcut2,hr2⟩:=HDR.out i (by omega)
        obtain ⟨rl,hrl⟩:∃ x,x=l.drop i:=⟨_,rfl⟩
        rw [← hrl] at hcut2 hr2
        have HR2:=Aside0.mk hr2
        have HRL:=Aside0.mk hrl
        have HRLL:=Aside0.mk (show rl.length≤1048576 by rw [hrl,List.length_drop];have:=HA.out.len;omega)
        clear hr2 hrl
        by_cases cz:a.f0=0
        · have HZ:=Aside0.mk (show ∀ W,Calls Try.prog 141 #[.agg #[.int .i64 a.f0,.int .i64 a.f1]] W fun e w'=>e=.returned (.bool true)∧Below W.heap.size W w' from fun W=>by have:=zeroS W a;rwa [show (a.f0 == 0)=true from by rw [cz];rfl] at this)
          have HV:=Aside0.mk (show R=(l.take i ++ rl,true) from by rw [HV0.out,if_pos cz,List.append_nil,HRL.out])
          clear cz
          go_wp2_with (first
            | (go_at_call 141;refine (HZ.out _).mono ?_;rintro e w8 ⟨rfl,hb⟩;have HB8:=Aside0.mk (qh_ HB4.out hb);have HO8:=Aside0.mk (Kd.qi2_ HO4.out hb);clear hb)
            | ((with_reducible refine qd2_ (b:=.append) (xs:=#[.tmp 69,.tmp 72]) rfl ?_);at_builtin;refine Kd.qq2_ k79 (w0:=w) w.heap.size rfl (.tmp 69) (.tmp 72) 24 79 (.agg #[(.string ⟨#[]⟩),(.int .i64 0),(.int .i64 0)]) 32 rfl Try.underlying24 info79' rfl (by decide) (by omega) v4 (l.take i) rl _ _ _ (fun _=>True) (fun _=>False) rfl rfl ?aO ?aR (fun _ _ h=>h) (fun _ h=>h.elim) ?aF ?aB ?aS ?aL ?_;(case aR=>exact Kd.qv1_ HR2.out HB8.out);(case aB=>exact HB8.out);(case aF=>exact (fun _ _=>trivial));(case aO=>exact HO8.out);(case aS=>exact qk_ HB8.out);(case aL=>have:=HRLL.out;have:=HA.out.len;rw [List.length_take];omega);intro v9 w9 ho hb hg hat;have HB9:=Aside0.mk hb;have HO9:=Aside0.mk ho;clear ho hb hg hat))
          go_returns
          rw [HV.out]
          exact ⟨_,rfl,HO9.out,HB9.out⟩
        · have HZ:=Aside0.mk (show ∀ W,Calls Try.prog 141 #[.agg #[.int .i64 a.f0,.int .i64 a.f1]] W fun e w'=>e=.returned (.bool false)∧Below W.heap.size W w' from fun W=>by have:=zeroS W a;rwa [show (a.f0 == 0)=false from by simpa using cz] at this)
          have HV:=Aside0.mk (show R=(l.take i ++ [⟨s,a⟩] ++ rl,true) from by rw [HV0.out,if_neg cz,HRL.out])
          clear cz
          go_wp2_with (first
            | (go_at_call 141;refine (HZ.out _).mono ?_;rintro e w8 ⟨rfl,hb⟩;have HB8:=Aside0.mk (qh_ HB4.out hb);have HO8:=Aside0.mk (Kd.qi2_ HO4.out hb);have F8:=FrAt.below HF4.out hb;have y0:=F8.c0;have y1:=F8.c1;clear F8 hb)
            | ((with_reducible refine qd2_ (b:=.append) (xs:=#[.tmp 63,.tmp 67]) rfl ?_);at_builtin;refine Kd.R_append k79 (w0:=w) w.heap.size rfl (.tmp 63) (.tmp 67) 24 79 (.agg #[(.string ⟨#[]⟩),(.int .i64 0),(.int .i64 0)]) 32 rfl Try.underlying24 info79' rfl (by decide) (by omega) v4 (l.take i) ⟨s,a⟩ [.string s,.int .i64 a.f0,.int .i64 a.f1] (fun _=>True) (fun _=>False) rfl rfl ?aP (fun _ hk=>hk.elim) ?aF ?aO ?aB ?aS ?aL ?_;(case aP=>exact k79_mkM _ _ _ ⟨s,a⟩);(case aB=>exact HB8.out);(case aF=>exact (fun _ _=>trivial));(case aO=>exact HO8.out);(case aS=>exact (qk_ HB8.out));(case aL=>have:=HA.out.len;rw [List.length_take];omega);intro v7 w7 ho hb hg hat;have HB7:=Aside0.mk hb;have HO7:=Aside0.mk ho;clear ho hb hg hat)
            | ((with_reducible refine qd2_ (b:=.append) (xs:=#[.tmp 69,.tmp 72]) rfl ?_);at_builtin;refine Kd.qq2_ k79 (w0:=w) w.heap.size rfl (.tmp 69) (.tmp 72) 24 79 (.agg #[(.string ⟨#[]⟩),(.int .i64 0),(.int .i64 0)]) 32 rfl Try.underlying24 info79' rfl (by decide) (by omega) v7 (l.take i ++ [⟨s,a⟩]) rl _ _ _ (fun _=>True) (fun _=>False) rfl rfl ?aO ?aR (fun _ _ h=>h) (fun _ h=>h.elim) ?aF ?aB ?aS ?aL ?_;(case aR=>exact Kd.qv1_ HR2.out HB7.out);(case aB=>exact HB7.out);(case aF=>exact (fun _ _=>trivial));(case aO=>exact HO7.out);(case aS=>exact qk_ HB7.out);(case aL=>have:=HRLL.out;have:=HA.out.len;rw [List.length_append,List.length_take,List.length_singleton];omega);intro v9 w9 ho hb hg hat;have HB9:=Aside0.mk hb;have HO9:=Aside0.mk ho;clear ho hb hg hat))
          all_goals
            go_returns
            rw [HV.out]
            exact ⟨_,rfl,HO9.out,HB9.out⟩
end Go.Proofs.Ytaiefdhenikiiaa.Base
namespace Go.Proofs.Ytaiefdhenikiiaa.Base
open Go.RowKit Go.Proofs.YtaiefdhenikiiaaW.PrintWords Go.Proofs.YtaiefdhenikiiaaW.PrintLast Go.Proofs.YtaiefdhenikiiaaW.PrintMore
set_option linter.unusedVariables false
set_option linter.unusedSimpArgs false
/-- What stands in memory while a sum is made. -/
structure AdS (w W:World) (bo:Nat) (d n:Int) (A:Option Addr) (ca la:Nat) (D2 N2:Int) (B:Option Addr) (cb lb:Nat) (k:S77) (vo:Value) (acc:List S79):Prop where
  sx:SrAt W w.heap.size d n (.slice A la ca)
  sy:SrAt W (w.heap.size+1) D2 N2 (.slice B lb cb)
  sk:FrAt W (w.heap.size+2) k
  sr:SrAt W (w.heap.size+3) 0 0 (.slice none 0 0)
  so:SrAt W bo d n vo
  ro:TermsR W w.heap.size vo acc
  be:Below w.heap.size w W
  lo:w.heap.size+3 < bo
theorem AdS.below {w W W':World} {bo:Nat} {d n D2 N2:Int} {A B:Option Addr} {ca la cb lb:Nat} {k:S77} {vo:Value} {acc:List S79} (H:AdS w W bo d n A ca la D2 N2 B cb lb k vo acc) (hb:Below W.heap.size W W'):AdS w W' bo d n A ca la D2 N2 B cb lb k vo acc :=
  ⟨H.sx.below hb,H.sy.below hb,H.sk.below hb,H.sr.below hb,H.so.below hb,Kd.qi2_ H.ro hb,qh_ H.be hb,H.lo⟩
theorem keep4 {w W:World} {a1 a2 a3 a4:Addr} {v1 v2 v3 v4:Value} (p1:w.cell? a1=some v1) (p2:w.cell? a2=some v2) (p3:w.cell? a3=some v3) (p4:w.cell? a4=some v4) (hb:Below w.heap.size w W) :
    W.cell? a1=some v1∧W.cell? a2=some v2∧W.cell? a3=some v3∧W.cell? a4=some v4 :=
  ⟨qt_ hb p1,qt_ hb p2,qt_ hb p3,qt_ hb p4⟩
theorem keep5 {w W:World} {a1 a2 a3 a4 a5:Addr} {v1 v2 v3 v4 v5:Value} (p1:w.cell? a1=some v1) (p2:w.cell? a2=some v2) (p3:w.cell? a3=some v3) (p4:w.cell? a4=some v4) (p5:w.cell? a5=some v5) (hb:Below w.heap.size w W) :
    W.cell? a1=some v1∧W.cell? a2=some v2∧W.cell? a3=some v3∧W.cell? a4=some v4∧W.cell? a5=some v5 :=
  ⟨qt_ hb p1,qt_ hb p2,qt_ hb p3,qt_ hb p4,qt_ hb p5⟩
set_option maxHeartbeats 32000000 in
set_option maxRecDepth 100000 in
theorem addFS (w:World) (D N D2 N2:Int) {x y:List S79} {A B:Option Addr} {ca cb:Nat} (hA:TmsC w A ca x) (hB:TmsC w B cb y) (hx:okL x) (hy:okL y) (hl:x.length+y.length≤1000000) (k:S77) (hk:okF k) :
    Calls Try.prog 125 #[.agg #[.int .i64 D,.int .i64 N,.slice A x.length ca],.agg #[.int .i64 D2,.int .i64 N2,.slice B y.length cb],.agg #[.int .i64 k.f0,.int .i64 k.f1]] w (OutR w D N (addSL x y k)):=by
  have hu:=Try.underlying38
  have hu2:=Try.underlying79
  have hu3:=Try.underlying77
  have HA:=Aside0.mk hA
  have HB:=Aside0.mk hB
  have HX:=Aside0.mk hx
  have HY:=Aside0.mk hy
  have HL:=Aside0.mk hl
  have HK:=Aside0.mk hk
  clear hA hB hx hy hl hk
  obtain ⟨R,hR⟩:∃ R,R=addSL x y k:=⟨_,rfl⟩
  rw [← hR]
  have HRR:=Aside0.mk hR
  clear hR
  go_enter Try.func125,Try.ntmps125
  go_wp2_with (first
    | (go_at_call 108;refine (emptyS _ D N (HA.out.below (qb_ (qb_ (qb_ (qb_ (Below.refl _ _) _) _) _) _))).mono ?_;rintro e w1 ⟨v,rfl,hv,hb⟩;obtain ⟨A1,c1,rfl⟩:=Kd.qg2_ hv;have S1:SrAt w1 w.heap.size D N (.slice A x.length ca):=qm_ (old_at (old_at (old_at (new_at rfl)))) hb;have S2:SrAt w1 (w.heap.size+1) D2 N2 (.slice B y.length cb):=qm_ (old_at (old_at (new_at (by simp)))) hb;have S4:FrAt w1 (w.heap.size+2) k:=qm_ (old_at (new_at (by simp))) hb;have S3:SrAt w1 (w.heap.size+3) 0 0 (.slice none 0 0):=qm_ (new_at (by simp)) hb;have HB1:=Aside0.mk (show Below w.heap.size w w1 from qh_ (qb_ (qb_ (qb_ (qb_ (Below.refl _ _) _) _) _) _) hb);have HL1:=Aside0.mk (show w.heap.size+3 < w1.heap.size from S3.lt);have HS1:=Aside0.mk S1;have HS2:=Aside0.mk S2;have HS3:=Aside0.mk S3;have HS4:=Aside0.mk S4;have x2:=S1.c2;have e2:(w1.alloc (.cells #[.int .i64 D,.int .i64 N,.slice A1 0 c1] 38)).cell? ⟨w.heap.size,2,none⟩=some (.slice A x.length ca):=(SrAt.alloc S1 _).c2;have HV1:=Aside0.mk (show TermsR w1 w.heap.size (.slice A1 ([]:List S79).length c1) [] from Kd.qn2_ hv (qk_ (qb_ (qb_ (qb_ (qb_ (Below.refl w.heap.size w) _) _) _) _)));clear S1 S2 S3 S4 hv hb)
    | ((with_reducible refine qd2_ (b:=.append) (xs:=#[.tmp 19,.tmp 21]) rfl ?_);at_builtin;refine Kd.qq2_ k79 (w0:=w) w.heap.size rfl (.tmp 19) (.tmp 21) 24 79 (.agg #[(.string ⟨#[]⟩),(.int .i64 0),(.int .i64 0)]) 32 rfl Try.underlying24 info79' rfl (by decide) (by omega) (.slice A1 0 c1) ([]:List S79) x _ _ _ (fun _=>True) (fun _=>False) rfl rfl ?aO ?aR (fun _ _ h=>h) (fun _ h=>h.elim) ?aF ?aB ?aS ?aL ?_;(case aR=>exact (HA.out.below (qb_ HB1.out _)).row);(case aB=>exact qb_ HB1.out _);(case aF=>exact (fun _ _=>trivial));(case aO=>exact Kd.qq1_ HV1.out _);(case aS=>exact qk_ (qb_ HB1.out _));(case aL=>have:=HL.out;rw [List.length_nil];omega);intro v2 w2 ho hb hg hat;rw [List.nil_append] at ho;have hr1:=Kd.qq1_ (o:=.cells #[.int .i64 D,.int .i64 N,.slice A1 0 c1] 38) HV1.out;have SO:SrAt w2 w1.heap.size D N (.slice A1 0 c1):=SrAt.grown (new_at rfl) hg (Kd.R_ne hr1 (new_at rfl:SrAt _ w1.heap.size D N (.slice A1 0 c1)) (by decide));have HS1':=Aside0.mk ((HS1.out.alloc _).grown hg (Kd.R_ne hr1 (HS1.out.alloc _) (by decide)));have HS2':=Aside0.mk ((HS2.out.alloc _).grown hg (Kd.R_ne hr1 (HS2.out.alloc _) (by decide)));have HS3':=Aside0.mk ((HS3.out.alloc _).grown hg (Kd.R_ne hr1 (HS3.out.alloc _) (by decide)));have HS4':=Aside0.mk (show FrAt w2 (w.heap.size+2) k from qc3_ (HS4.out.alloc _) hg (Kd.R_ne hr1 (HS4.out.alloc _) (by decide)));obtain ⟨A2,c2,rfl⟩:=Kd.qg2_ ho;have HO2:=Aside0.mk ho;have HB2:=Aside0.mk hb;have u2:=SO.c2;have uf:=qd_ SO 2;have HSO:=Aside0.mk SO;clear SO hr1 ho hb hg hat)
    | ((with_reducible refine qx_ (N:=24) rfl ?_);refine Kd.R_lit k79 _ 79 ?hg (N:=24) ?hd (xs:=([]:List S79)) (inner:=[]) (ok:=fun _=>True) (okp:=fun _=>True) ?hr ?hp (fun _ hk=>hk) trivial (Below.refl _ _) (Nat.le_refl _) (by simp) ?_;(case hd=>rfl);(case hg=>rfl);(case hr=>first|(go_simp;done)|(go_simp;rfl));(case hp=>exact (Reps.none _ _));intro v3 w3 ho hb hg hnew;clear hg hnew;have HIB:=Aside0.mk (show AdS w (w2.setCell ⟨w1.heap.size,2,none⟩ (.slice A2 x.length c2)) w1.heap.size D N A ca x.length D2 N2 B cb y.length k (.slice A2 x.length c2) x from ⟨HS1'.out.far (by have:=HL1.out;simp;omega) _,HS2'.out.far (by have:=HL1.out;simp;omega) _,HS4'.out.far (by have:=HL1.out;simp;omega) _,HS3'.out.far (by have:=HL1.out;simp;omega) _,HSO.out.put _,Kd.R_set HO2.out HSO.out (by decide) 2 _,HB2.out.setCell (by have:=HL1.out;simp;omega) _,HL1.out⟩);have HB3:=Aside0.mk hb;obtain ⟨A3,c3,rfl⟩:=Kd.qg2_ ho;have HV3:=Aside0.mk ho;clear ho hb))
  generalize w2.setCell ⟨w1.heap.size,2,none⟩ (.slice A2 x.length c2)=WB at HIB HB3 HV3
  clear HS1 HS2 HS3 HS4 HV1 HS1' HS2' HS3' HS4' HO2 HSO x2 e2 u2 uf
  go_loopg [9,10] y.length (fun gg v9 v10 wr=>∃ (i:Nat) (vs:Value) (sc:List S79),i≤y.length∧y.length - i≤gg∧v9=vs∧v10=.int .i64 i∧Aside0 (Below WB.heap.size WB wr)∧Aside0 (TermsR wr WB.heap.size vs sc)∧Aside0 (scaleL k (y.take i)=some sc))
  case atStart=>exact ⟨0,_,[],Nat.zero_le _,by omega,rfl,rfl,HB3,HV3,⟨by rw [List.take_zero];rfl⟩⟩
  case round =>
    clear HB3 HV3
    obtain ⟨i,vs,sc,hi,hg,he9,rfl,HBr,HV,HP⟩:=hrel
    have HI:=Aside0.mk (HIB.out.below HBr.out)
    have he9':=he9.symm
    subst he9'
    have HYL:=Aside0.mk (show y.length≤1000000 by have:=HL.out;omega)
    by_cases hlt:i < y.length
    · have hltz:(i:Int) < (y.length:Int):=by omega
      obtain ⟨ad,rfl,t0,t1,t2⟩:=at_T79 (Kd.qv1_ HB.out.row HI.out.be) (i:Int) (by omega) (by omega)
      have e1:rd_T79 y (i:Int)=y[i]:=by simp [rd_T79,List.getD_eq_getElem?_getD,List.getElem?_eq_getElem hlt]
      obtain ⟨z,hz⟩:∃ z,z=y[i]:=⟨_,rfl⟩
      rw [e1,← hz,Int.toNat_natCast] at t0 t1 t2
      have HOZ:=Aside0.mk (show okF z.f1 by rw [hz];exact HY.out _ (List.getElem_mem hlt))
      have HST:=Aside0.mk (show scaleL k (y.take (i+1))=if (timesM k z.f1).2=true then some (sc ++ [⟨z.f0,(timesM k z.f1).1⟩]) else none from by rw [scaleL_step hlt,HP.out,← hz];rfl)
      have HT0:=Aside0.mk t0
      have HSC:=Aside0.mk (scaleL_ok y i hi sc HP.out)
      have HFail:=Aside0.mk (show scaleL k (y.take (i+1))=none→R=none from fun h=>by
        rw [HRR.out,show addSL x y k=(scaleL k y).bind fun s=>addL x s from rfl,show scaleL k y=none from by
          conv=>lhs;rw [← List.take_append_drop (i+1) y]
          exact scaleL_none k _ _ h]
        rfl)
      clear e1 hz HP
      have p0:=HI.out.sk.c0
      have p1:=HI.out.sk.c1
      have p2:=HI.out.sy.c2
      obtain ⟨f,hf⟩:∃ f,f=tellF (timesM k z.f1):=⟨_,rfl⟩
      obtain ⟨ok,hok⟩:∃ ok,ok=(timesM k z.f1).2:=⟨_,rfl⟩
      have HTM:=Aside0.mk (show ∀ W,Calls Try.prog 178 #[.agg #[.int .i64 k.f0,.int .i64 k.f1],.agg #[.int .i64 z.f1.f0,.int .i64 z.f1.f1]] W fun e w'=>e=.returned (.tuple #[.agg #[.int .i64 f.f0,.int .i64 f.f1],.bool ok])∧Below W.heap.size W w' from fun W=>by rw [hf,hok];exact timesFS W HK.out HOZ.out)
      have HF:=Aside0.mk hf
      have HOK:=Aside0.mk hok
      clear hf hok
      go_wp2
      go_cut [11,12] (fun v11 v12 wx=>∃ b9:Nat,v11=.pointer (some ⟨b9,0,none⟩)∧v12=.bool ok∧Aside0 (FrAt wx b9 f)∧Aside0 (Below wr.heap.size wr wx))
      case first =>
        go_region_held3 (fun w'=>w'.cell? ⟨w.heap.size+2,0,none⟩=some (.int .i64 k.f0)∧w'.cell? ⟨w.heap.size+2,1,none⟩=some (.int .i64 k.f1)∧w'.cell? ⟨w.heap.size+1,2,none⟩=some (.slice (some ad) y.length cb)∧w'.cell? ⟨(ad.add (i * 3)).block,(ad.add (i * 3)).off+1,none⟩=some (.int .i64 z.f1.f0)∧w'.cell? ⟨(ad.add (i * 3)).block,(ad.add (i * 3)).off+2,none⟩=some (.int .i64 z.f1.f1)) (exact keep5 p0 p1 p2 t1 t2 (by (repeat' (first|(with_reducible exact Below.refl _ _)|(with_reducible exact HB4.out)|(with_reducible refine Below.setCell ?_ ?_ _)|(with_reducible refine qc_ ?_)|(with_reducible refine qa_ ?_ _)|(with_reducible refine qb_ ?_ _)|(simp;done)|(simp;omega)|(have:=HB4.out.size;simp;omega))))) (first|(go_at_call 178;refine (HTM.out _).mono ?_;rintro e w4 ⟨rfl,hb⟩;have HB4:=Aside0.mk (show Below wr.heap.size wr w4 from qh_ (by repeat (first|(with_reducible exact Below.refl _ _)|(with_reducible refine qc_ ?_)|(with_reducible refine qa_ ?_ _)|(with_reducible refine qb_ ?_ _))) hb);first|(refine (fun (Z:w4.heap[wr.heap.size]?=some (.cells #[.int .i64 0,.int .i64 0] 77 (0,0)))=>?_) (qm_ ?_ hb);rotate_left;(first|exact drew_at (new_at rfl)|exact new_at rfl);have HZZ:=Aside0.mk Z;have z0:=qg_ Z 0;have z1:=qg_ Z 1;have zf0:=qd_ Z 0;have zf1:=qd_ Z 1;clear Z hb)|(clear hb)))
        all_goals
          go_wp2_with fail
          go_meet
          case rel =>
            refine ⟨_,rfl,rfl,⟨?_⟩,⟨?_⟩⟩
            · (repeat' (first|((with_reducible refine FrAt.new' ?_ _);simp;done)|(with_reducible refine FrAt.put2 ?_ _)|(with_reducible exact HZZ.out)|(with_reducible refine FrAt.drewN ?_ _)|(with_reducible refine FrAt.drew ?_)|(with_reducible refine FrAt.alloc ?_ _)|((with_reducible refine FrAt.far ?_ ?_ _);rotate_left;(focus (first|(simp;done)|(simp;omega))))|(with_reducible refine drewN_at ?_)|(with_reducible refine drew_at ?_)|((with_reducible refine new_at ?_);simp;done)|(with_reducible refine old_at ?_)|((with_reducible refine qr1_ ?_ ?_ _);rotate_left;(focus (first|(simp;done)|(simp;omega))))))
            · (repeat' (first|(with_reducible exact Below.refl _ _)|(with_reducible exact HB4.out)|(with_reducible refine Below.setCell ?_ ?_ _)|(with_reducible refine qc_ ?_)|(with_reducible refine qa_ ?_ _)|(with_reducible refine qb_ ?_ _)|(simp;done)|(simp;omega)|(have:=HB4.out.size;simp;omega)))
      case rest =>
        obtain ⟨b9,rfl,rfl,HF9,HM4⟩:=hcut
        have HI4:=Aside0.mk (HI.out.below HM4.out)
        have HV4:=Aside0.mk (Kd.qi2_ HV.out HM4.out)
        have HB4:=Aside0.mk (qh_ HBr.out HM4.out)
        cases ok with
        | false =>
          have HRN:=Aside0.mk (HFail.out (by rw [HST.out,← HOK.out];rfl))
          clear p0 p1 p2 t0 t1 t2
          have SR:=HI4.out.sr
          have x0:wc.cell? ⟨w.heap.size+1+1+1,0,none⟩=some (.int .i64 0):=SR.c0
          have x1:wc.cell? ⟨w.heap.size+1+1+1,1,none⟩=some (.int .i64 0):=SR.c1
          have x2:wc.cell? ⟨w.heap.size+1+1+1,2,none⟩=some (.slice none 0 0):=SR.c2
          have f0:wc.frozen? ⟨w.heap.size+1+1+1,0,none⟩=false:=qd_ SR 0
          have f1:wc.frozen? ⟨w.heap.size+1+1+1,1,none⟩=false:=qd_ SR 1
          have f2:wc.frozen? ⟨w.heap.size+1+1+1,2,none⟩=false:=qd_ SR 2
          clear SR
          go_wp2
          refine bodyPost_ret (results_ct rfl _ _ (w.heap.size+3) 38 _ (0,0) _ rfl (qh1_ (qh1_ (qh1_ HI4.out.sr 0 _) 1 _) 2 _) hu rfl (by kernel_rfl)) rfl ?_
          rw [HRN.out]
          exact ⟨_,rfl,Kd.R_nil _ _ _ _ _,((HI4.out.be.setCell (Nat.le_add_right _ 3) _).setCell (Nat.le_add_right _ 3) _).setCell (Nat.le_add_right _ 3) _⟩
        | true =>
          have HST2:=Aside0.mk (show scaleL k (y.take (i+1))=some (sc ++ [⟨z.f0,f⟩]) from by
            rw [HST.out,← HOK.out,HF.out];unfold tellF;rw [← HOK.out];rfl)
          have q0:=qt_ HM4.out HT0.out
          have q2:=HI4.out.sy.c2
          have f0:=HF9.out.c0
          have f1:=HF9.out.c1
          clear p0 p1 p2 t0 t1 t2
          go_wp2
          refine wp_region_noPanic ?_
          go_region_law ((refine Kd.R_append_step k79 (w0:=WB) WB.heap.size rfl (.tmp 46) (.tmp 55) 24 79 (.agg #[(.string ⟨#[]⟩),(.int .i64 0),(.int .i64 0)]) 32 rfl Try.underlying24 info79' rfl (by decide) (by omega) vs sc ⟨z.f0,f⟩ [.string z.f0,.int .i64 f.f0,.int .i64 f.f1] (fun _=>True) (fun k=>some k ≠ vs.ownBlock) rfl rfl (k79_mkM _ _ _ ⟨z.f0,f⟩) (fun _ h=>⟨trivial,h⟩) (fun _ _=>trivial) (Kd.R_drew HV4.out) (qc_ HB4.out) HB4.out.size (by have:=HSC.out.2;have:=HYL.out;omega) ?_;intro v6 w6 ho hb hg hat;have HR6:=Aside0.mk ho;have HB6:=Aside0.mk hb;clear ho hb hg hat))
          all_goals
            refine NoPanic.normal ?_
            go_wp2
            go_roundg (y.length - (i+1))
            case measure=>omega
            case rel=>exact ⟨i+1,_,sc ++ [⟨z.f0,f⟩],by omega,by omega,rfl,by have:=HYL.out;first|rfl|(rw [w64 (by omega) (by omega)];rfl),HB6,HR6,HST2⟩
    · have hltz:¬ (i:Int) < (y.length:Int):=by omega
      obtain rfl:i=y.length:=by omega
      have p2:=HI.out.sy.c2
      have hp:=HP.out
      rw [List.take_length] at hp
      have HPS:=Aside0.mk hp
      have HSC:=Aside0.mk (show okL sc∧sc.length=y.length from scaleL_ok y y.length (Nat.le_refl _) sc HP.out)
      have HRA:=Aside0.mk (show R=addL x sc from by rw [HRR.out,show addSL x y k=(scaleL k y).bind fun s=>addL x s from rfl,hp];rfl)
      obtain ⟨As,cs,rfl⟩:=Kd.qg2_ HV.out
      clear hp HP
      go_wp2
      go_loopg [13] sc.length (fun gg v13 wq=>∃ (j:Nat) (Ao:Option Addr) (co:Nat) (acc:List S79),j≤sc.length∧sc.length - j≤gg∧v13=.int .i64 j∧Aside0 (AdS w wq w1.heap.size D N A ca x.length D2 N2 B cb y.length k (.slice Ao acc.length co) acc)∧Aside0 (TermsR wq WB.heap.size (.slice As sc.length cs) sc)∧Aside0 (addL x (sc.take j)=some acc))
      case atStart=>exact ⟨0,A2,c2,x,Nat.zero_le _,by omega,rfl,HI,HV,⟨by rw [List.take_zero];rfl⟩⟩
      case round =>
        clear HI HV p2 HBr
        obtain ⟨j,Ao,co,acc,hj,hgj,rfl,HI,HV,HP⟩:=hrel
        have HSL:=Aside0.mk (show sc.length≤1000000 from by have:=HSC.out.2;have:=HYL.out;omega)
        by_cases hjl:j < sc.length
        · have hjz:(j:Int) < (sc.length:Int):=by omega
          obtain ⟨ad,rfl,t0,t1,t2⟩:=at_T79 (Kd.qh3_ HV.out).2.2 (j:Int) (by omega) (by omega)
          have e1:rd_T79 sc (j:Int)=sc[j]:=by simp [rd_T79,List.getD_eq_getElem?_getD,List.getElem?_eq_getElem hjl]
          obtain ⟨z,hz⟩:∃ z,z=sc[j]:=⟨_,rfl⟩
          rw [e1,← hz,Int.toNat_natCast] at t0 t1 t2
          have HOZ:=Aside0.mk (show okF z.f1 by rw [hz];exact HSC.out.1 _ (List.getElem_mem hjl))
          have HST:=Aside0.mk (show addL x (sc.take (j+1))=putL acc z.f0 z.f1 from by rw [addL_step hjl,HP.out,← hz];rfl)
          have HAO:=Aside0.mk (addL_ok HX.out HSC.out.1 j hj acc HP.out)
          have HFail:=Aside0.mk (show addL x (sc.take (j+1))=none→R=none from fun h=>by
            rw [HRA.out]
            conv=>lhs;rw [← List.take_append_drop (j+1) sc]
            exact addL_none x _ _ h)
          clear e1 hz HP
          have p2:=HI.out.so.c2
          have HTC:=Aside0.mk (show TmsC wr Ao co acc from (TmsC.of HI.out.ro (by have:=HAO.out.2;have:=HL.out;have:=HSC.out.2;omega)).1)
          obtain ⟨o,ho⟩:∃ o,o=putL acc z.f0 z.f1:=⟨_,rfl⟩
          have HPU:=Aside0.mk (show ∀ W,TmsC W Ao co acc→Calls Try.prog 158 #[.slice Ao acc.length co,.string z.f0,.agg #[.int .i64 z.f1.f0,.int .i64 z.f1.f1]] W (fun e w'=>∃ v:Value,e=.returned (.tuple #[v,.bool (tellL o).2])∧TermsR w' W.heap.size v (tellL o).1∧Below W.heap.size W w') from fun W H=>by rw [ho];exact putH W H HAO.out.1 z.f0 HOZ.out)
          rw [← ho] at HST
          clear ho
          cases o with
          | none =>
            have HRN:=Aside0.mk (HFail.out HST.out)
            go_wp2
            go_region_held3 (fun w'=>w'.cell? ⟨w1.heap.size,2,none⟩=some (.slice Ao acc.length co)∧w'.cell? (ad.add (j * 3))=some (.string z.f0)∧w'.cell? ⟨(ad.add (j * 3)).block,(ad.add (j * 3)).off+1,none⟩=some (.int .i64 z.f1.f0)∧w'.cell? ⟨(ad.add (j * 3)).block,(ad.add (j * 3)).off+2,none⟩=some (.int .i64 z.f1.f1)) (exact keep4 p2 t0 t1 t2 (by (repeat' (first|(with_reducible exact Below.refl _ _)|(with_reducible exact HB4.out)|(with_reducible refine Below.setCell ?_ ?_ _)|(with_reducible refine qc_ ?_)|(with_reducible refine qa_ ?_ _)|(with_reducible refine qb_ ?_ _)|(simp;done)|(simp;omega)|(have:=HB4.out.size;simp;omega))))) (first|(go_at_call 158;refine (HPU.out _ ?hT).mono ?_;(case hT=>exact HTC.out.below (by repeat (first|(with_reducible exact Below.refl _ _)|(with_reducible refine qc_ ?_)|(with_reducible refine qa_ ?_ _)|(with_reducible refine qb_ ?_ _))));rintro e w5 ⟨v,rfl,hv,hb⟩;have HB4:=Aside0.mk (show Below wr.heap.size wr w5 from qh_ (by repeat (first|(with_reducible exact Below.refl _ _)|(with_reducible refine qc_ ?_)|(with_reducible refine qa_ ?_ _)|(with_reducible refine qb_ ?_ _))) hb);have HI5:=Aside0.mk (HI.out.below HB4.out);have SR:=HI5.out.sr;have x0:w5.cell? ⟨w.heap.size+1+1+1,0,none⟩=some (.int .i64 0):=SR.c0;have x1:w5.cell? ⟨w.heap.size+1+1+1,1,none⟩=some (.int .i64 0):=SR.c1;have x2:w5.cell? ⟨w.heap.size+1+1+1,2,none⟩=some (.slice none 0 0):=SR.c2;have f0:w5.frozen? ⟨w.heap.size+1+1+1,0,none⟩=false:=qd_ SR 0;have f1:w5.frozen? ⟨w.heap.size+1+1+1,1,none⟩=false:=qd_ SR 1;have f2:w5.frozen? ⟨w.heap.size+1+1+1,2,none⟩=false:=qd_ SR 2;clear SR;clear hv hb))
            go_wp2
            refine bodyPost_ret (results_ct rfl _ _ (w.heap.size+3) 38 _ (0,0) _ rfl (qh1_ (qh1_ (qh1_ HI5.out.sr 0 _) 1 _) 2 _) hu rfl (by kernel_rfl)) rfl ?_
            rw [HRN.out]
            exact ⟨_,rfl,Kd.R_nil _ _ _ _ _,((HI5.out.be.setCell (Nat.le_add_right _ 3) _).setCell (Nat.le_add_right _ 3) _).setCell (Nat.le_add_right _ 3) _⟩
          | some q =>
            go_wp2
            go_region_held3 (fun w'=>w'.cell? ⟨w1.heap.size,2,none⟩=some (.slice Ao acc.length co)∧w'.cell? (ad.add (j * 3))=some (.string z.f0)∧w'.cell? ⟨(ad.add (j * 3)).block,(ad.add (j * 3)).off+1,none⟩=some (.int .i64 z.f1.f0)∧w'.cell? ⟨(ad.add (j * 3)).block,(ad.add (j * 3)).off+2,none⟩=some (.int .i64 z.f1.f1)) (exact keep4 p2 t0 t1 t2 (by (repeat' (first|(with_reducible exact Below.refl _ _)|(with_reducible exact HB4.out)|(with_reducible refine Below.setCell ?_ ?_ _)|(with_reducible refine qc_ ?_)|(with_reducible refine qa_ ?_ _)|(with_reducible refine qb_ ?_ _)|(simp;done)|(simp;omega)|(have:=HB4.out.size;simp;omega))))) (first|(go_at_call 158;refine (HPU.out _ ?hT).mono ?_;(case hT=>exact HTC.out.below (by repeat (first|(with_reducible exact Below.refl _ _)|(with_reducible refine qc_ ?_)|(with_reducible refine qa_ ?_ _)|(with_reducible refine qb_ ?_ _))));rintro e w5 ⟨v,rfl,hv,hb⟩;obtain ⟨Aq,cq,rfl⟩:=Kd.qg2_ hv;have HB4:=Aside0.mk (show Below wr.heap.size wr w5 from qh_ (by repeat (first|(with_reducible exact Below.refl _ _)|(with_reducible refine qc_ ?_)|(with_reducible refine qa_ ?_ _)|(with_reducible refine qb_ ?_ _))) hb);have HI5:=Aside0.mk (HI.out.below HB4.out);have HV5:=Aside0.mk (show TermsR w5 WB.heap.size (.slice (some ad) sc.length cs) sc from Kd.qi2_ HV.out HB4.out);have HQ:=Aside0.mk (show TermsR w5 w.heap.size (.slice Aq q.length cq) q from Kd.qn2_ hv (Nat.le_trans HI.out.be.size (qk_ (show Below wr.heap.size wr _ from (by repeat (first|(with_reducible exact Below.refl _ _)|(with_reducible refine qc_ ?_)|(with_reducible refine qa_ ?_ _)|(with_reducible refine qb_ ?_ _)))))));have g2:=HI5.out.so.c2;have gf:=qd_ HI5.out.so 2;clear hv hb))
            go_wp2
            go_roundg (sc.length - (j+1))
            case measure=>omega
            case rel =>
              have hlo:=HI5.out.lo
              refine ⟨j+1,Aq,cq,q,by omega,by omega,by have:=HSL.out;first|rfl|(rw [w64 (by omega) (by omega)];rfl),⟨⟨?_,?_,?_,?_,HI5.out.so.put _,?_,?_,hlo⟩⟩,⟨Kd.R_set HV5.out HI5.out.so (by decide) 2 _⟩,HST⟩
              · exact HI5.out.sx.far (by simp;omega) _
              · exact HI5.out.sy.far (by simp;omega) _
              · exact HI5.out.sk.far (by simp;omega) _
              · exact HI5.out.sr.far (by simp;omega) _
              · exact Kd.R_set HQ.out HI5.out.so (by decide) 2 _
              · exact HI5.out.be.setCell (by simp;omega) _
        · have hjz:¬ (j:Int) < (sc.length:Int):=by omega
          obtain rfl:j=sc.length:=by omega
          have hp:=HP.out
          rw [List.take_length] at hp
          have HRS:=Aside0.mk (show R=some acc from HRA.out.trans hp)
          have y0:=HI.out.so.c0
          have y1:=HI.out.so.c1
          have y2:=HI.out.so.c2
          clear hp
          have SR:=HI.out.sr
          have x0:wr.cell? ⟨w.heap.size+1+1+1,0,none⟩=some (.int .i64 0):=SR.c0
          have x1:wr.cell? ⟨w.heap.size+1+1+1,1,none⟩=some (.int .i64 0):=SR.c1
          have x2:wr.cell? ⟨w.heap.size+1+1+1,2,none⟩=some (.slice none 0 0):=SR.c2
          have f0:wr.frozen? ⟨w.heap.size+1+1+1,0,none⟩=false:=qd_ SR 0
          have f1:wr.frozen? ⟨w.heap.size+1+1+1,1,none⟩=false:=qd_ SR 1
          have f2:wr.frozen? ⟨w.heap.size+1+1+1,2,none⟩=false:=qd_ SR 2
          clear SR
          go_wp2
          refine bodyPost_ret (results_ct rfl _ _ (w.heap.size+3) 38 _ (0,0) _ rfl (qh1_ (qh1_ (qh1_ HI.out.sr 0 _) 1 _) 2 _) hu rfl (by kernel_rfl)) rfl ?_
          rw [HRS.out]
          refine ⟨_,rfl,?_,((HI.out.be.setCell (Nat.le_add_right _ 3) _).setCell (Nat.le_add_right _ 3) _).setCell (Nat.le_add_right _ 3) _⟩
          exact Kd.R_set (Kd.R_set (Kd.R_set HI.out.ro HI.out.sr (by decide) 0 _) (qh1_ HI.out.sr 0 _) (by decide) 1 _) (qh1_ (qh1_ HI.out.sr 0 _) 1 _) (by decide) 2 _
end Go.Proofs.Ytaiefdhenikiiaa.Base
namespace Go.Proofs.Ytaiefdhenikiiaa.Base
open Go.RowKit Go.Proofs.YtaiefdhenikiiaaW.PrintWords Go.Proofs.YtaiefdhenikiiaaW.PrintLast Go.Proofs.YtaiefdhenikiiaaW.PrintMore
set_option linter.unusedVariables false
set_option linter.unusedSimpArgs false
theorem OutR.any {w:World} {d n:Int} {o:Option (List S79)} {e:Ending} {w':World} (h:OutR w d n o e w'):∃ (D N:Int) (A:Option Addr) (m c:Nat) (b:Bool),e=.returned (.tuple #[.agg #[.int .i64 D,.int .i64 N,.slice A m c],.bool b])∧Below w.heap.size w w':=by
  cases o with
  | none=>obtain ⟨v,rfl,hv,hb⟩:=h;obtain ⟨A,c,rfl⟩:=Kd.qg2_ hv;exact ⟨_,_,_,_,_,_,rfl,hb⟩
  | some l=>obtain ⟨v,rfl,hv,hb⟩:=h;obtain ⟨A,c,rfl⟩:=Kd.qg2_ hv;exact ⟨_,_,_,_,_,_,rfl,hb⟩
/-- What is handed back of a sum of terms,or of none. -/
def OutV (d n:Int) (o:Option (List S79)) (D N:Int) (l:List S79) (ok:Bool):Prop:=match o with
  | none=>D=0∧N=0∧l=[]∧ok=false
  | some q=>D=d∧N=n∧l=q∧ok=true
theorem OutR.val {w:World} {d n:Int} {o:Option (List S79)} {e:Ending} {w':World} (h:OutR w d n o e w'):∃ (D N:Int) (A:Option Addr) (c:Nat) (l:List S79) (ok:Bool),e=.returned (.tuple #[.agg #[.int .i64 D,.int .i64 N,.slice A l.length c],.bool ok])∧OutV d n o D N l ok∧TermsR w' w.heap.size (.slice A l.length c) l∧Below w.heap.size w w':=by
  cases o with
  | none=>obtain ⟨v,rfl,hv,hb⟩:=h;obtain ⟨A,c,rfl⟩:=Kd.qg2_ hv;exact ⟨_,_,_,_,[],_,rfl,⟨rfl,rfl,rfl,rfl⟩,hv,hb⟩
  | some l=>obtain ⟨v,rfl,hv,hb⟩:=h;obtain ⟨A,c,rfl⟩:=Kd.qg2_ hv;exact ⟨_,_,_,_,l,_,rfl,⟨rfl,rfl,rfl,rfl⟩,hv,hb⟩
theorem OutR.of {w:World} {d n:Int} {o:Option (List S79)} {w':World} {D N:Int} {l:List S79} {ok:Bool} {v:Value} (h:OutV d n o D N l ok) (hv:TermsR w' w.heap.size v l) (hb:Below w.heap.size w w'):OutR w d n o (.returned (.tuple #[.agg #[.int .i64 D,.int .i64 N,v],.bool ok])) w':=by
  cases o with
  | none=>obtain ⟨rfl,rfl,rfl,rfl⟩:=h;exact ⟨v,rfl,hv,hb⟩
  | some q=>obtain ⟨rfl,rfl,rfl,rfl⟩:=h;exact ⟨v,rfl,hv,hb⟩
theorem SrAt.put3 {w:World} {b:Nat} (h:w.heap[b]?=some (.cells #[.int .i64 0,.int .i64 0,.slice none 0 0] 38 (0,0))) (D N:Int) (v:Value):SrAt (((w.setCell ⟨b,0,none⟩ (.int .i64 D)).setCell ⟨b,1,none⟩ (.int .i64 N)).setCell ⟨b,2,none⟩ v) b D N v:=qh1_ (qh1_ (qh1_ h 0 _) 1 _) 2 _
theorem SrAt.new {w:World} {b:Nat} {D N:Int} {v:Value} (h:b=w.heap.size):SrAt (w.alloc (.cells #[.int .i64 D,.int .i64 N,v] 38)) b D N v:=new_at h
theorem keep6 {w W:World} {a1 a2 a3 a4 a5 a6:Addr} {v1 v2 v3 v4 v5 v6:Value} (p1:w.cell? a1=some v1) (p2:w.cell? a2=some v2) (p3:w.cell? a3=some v3) (p4:w.cell? a4=some v4) (p5:w.cell? a5=some v5) (p6:w.cell? a6=some v6) (hb:Below w.heap.size w W) :
    W.cell? a1=some v1∧W.cell? a2=some v2∧W.cell? a3=some v3∧W.cell? a4=some v4∧W.cell? a5=some v5∧W.cell? a6=some v6 :=
  ⟨qt_ hb p1,qt_ hb p2,qt_ hb p3,qt_ hb p4,qt_ hb p5,qt_ hb p6⟩
theorem terms_len {d n:Nat} {t:Tb} (h:Like t (zeroT d n)) (hs:Sz d n):(termsT t).length≤20000:=by
  have h1:(termsT t).length≤(wordsD t.d t.n).length:=termsN_len t _
  have h2:(wordsD t.d t.n).length≤19683:=wordsD_small _ _ (by rw [h.1];exact hs.d3) (by rw [h.2.1];exact hs.n8)
  omega
theorem terms_okL {t:Tb} (h:t.Ok):okL (termsT t):=fun x hx=>by obtain ⟨l,_,_,e,_⟩:=mem_terms hx;rw [e];exact h.val l
set_option maxHeartbeats 32000000 in
set_option maxRecDepth 100000 in
theorem commS_1 (w:World) (d n:Nat) (hs:Sz d n) {t u:Tb} (ht:Like t (zeroT d n)) (hu:Like u (zeroT d n)) (hbt:t.bad=false) (hbu:u.bad=false) (hb1:(timesT t u).bad=true) {A B:Option Addr} {ca cb:Nat} (hA:TmsC w A ca (termsT t)) (hB:TmsC w B cb (termsT u)) :
    Calls Try.prog 109 #[.agg #[.int .i64 (d:Int),.int .i64 (n:Int),.slice A (termsT t).length ca],.agg #[.int .i64 (d:Int),.int .i64 (n:Int),.slice B (termsT u).length cb]] w (OutR w d n (outT (commT t u))):=by
  have hu2:=Try.underlying38
  have hu3:=Try.underlying77
  obtain ⟨o2,ho2⟩:∃ o,o=outT (timesT u t):=⟨_,rfl⟩
  have HT1:=Aside0.mk (show ∀ W,TmsC W A ca (termsT t)→TmsC W B cb (termsT u)→Calls Try.prog 133 #[.agg #[.int .i64 (d:Int),.int .i64 (n:Int),.slice A (termsT t).length ca],.agg #[.int .i64 (d:Int),.int .i64 (n:Int),.slice B (termsT u).length cb]] W (OkRes W 0 0 [] false) from fun W h1 h2=>by have:=timesS W d n hs ht hu hbt hbu h1 h2;rw [outT_bad hb1] at this;exact this)
  have HT2:=Aside0.mk (show ∀ W,TmsC W B cb (termsT u)→TmsC W A ca (termsT t)→Calls Try.prog 133 #[.agg #[.int .i64 (d:Int),.int .i64 (n:Int),.slice B (termsT u).length cb],.agg #[.int .i64 (d:Int),.int .i64 (n:Int),.slice A (termsT t).length ca]] W (OutR W d n o2) from fun W h1 h2=>by have:=timesS W d n hs hu ht hbu hbt h1 h2;rw [← ho2] at this;exact this)
  have HRN:=Aside0.mk (show outT (commT t u)=none from outT_bad (commT_bad (Or.inl hb1)))
  generalize outT (commT t u)=R at HRN ⊢
  generalize termsT t=lt at hA HT1 HT2 ⊢
  generalize termsT u=lu at hB HT1 HT2 ⊢
  have HA:=Aside0.mk hA
  have HB:=Aside0.mk hB
  clear ho2 hA hB ht hu hbt hbu hb1 hs
  obtain ⟨flag,hflag⟩:∃ b:Nat,b=0:=⟨0,rfl⟩
  go_enter Try.func109,Try.ntmps109
  go_wp2_with (first
    | (go_at_call 133;clear hflag;refine (HT1.out _ (HA.out.below (qb_ (qb_ (qb_ (Below.refl _ _) _) _) _)) (HB.out.below (qb_ (qb_ (qb_ (Below.refl _ _) _) _) _))).mono ?_;rintro e w1 h1;obtain ⟨v1,rfl,hv1,hb⟩:=h1;obtain ⟨A1,c1,rfl⟩:=Kd.qg2_ hv1;have HB1:=Aside0.mk (show Below w.heap.size w w1 from qh_ (qb_ (qb_ (qb_ (Below.refl _ _) _) _) _) hb);have SX:SrAt w1 w.heap.size d n (.slice A lt.length ca):=qm_ (old_at (old_at (new_at rfl))) hb;have SY:SrAt w1 (w.heap.size+1) d n (.slice B lu.length cb):=qm_ (old_at (new_at (by simp))) hb;have SR:SrAt w1 (w.heap.size+2) 0 0 (.slice none 0 0):=qm_ (new_at (by simp)) hb;have eSX0:(w1.alloc (.cells #[.int .i64 0,.int .i64 0,.slice A1 0 c1] 38)).cell? ⟨w.heap.size,0,none⟩=some (.int .i64 (d:Int)):=(SrAt.alloc SX _).c0;have eSX1:(w1.alloc (.cells #[.int .i64 0,.int .i64 0,.slice A1 0 c1] 38)).cell? ⟨w.heap.size,1,none⟩=some (.int .i64 (n:Int)):=(SrAt.alloc SX _).c1;have eSX2:(w1.alloc (.cells #[.int .i64 0,.int .i64 0,.slice A1 0 c1] 38)).cell? ⟨w.heap.size,2,none⟩=some (.slice A lt.length ca):=(SrAt.alloc SX _).c2;have eSY0:(w1.alloc (.cells #[.int .i64 0,.int .i64 0,.slice A1 0 c1] 38)).cell? ⟨w.heap.size+1,0,none⟩=some (.int .i64 (d:Int)):=(SrAt.alloc SY _).c0;have eSY1:(w1.alloc (.cells #[.int .i64 0,.int .i64 0,.slice A1 0 c1] 38)).cell? ⟨w.heap.size+1,1,none⟩=some (.int .i64 (n:Int)):=(SrAt.alloc SY _).c1;have eSY2:(w1.alloc (.cells #[.int .i64 0,.int .i64 0,.slice A1 0 c1] 38)).cell? ⟨w.heap.size+1,2,none⟩=some (.slice B lu.length cb):=(SrAt.alloc SY _).c2;have HSX:=Aside0.mk SX;have HSY:=Aside0.mk SY;have HSR:=Aside0.mk SR;have HV1:=Aside0.mk hv1;clear SX SY SR hv1 hb)
    | (go_at_call 133;refine (HT2.out _ (HB.out.below (qb_ HB1.out _)) (HA.out.below (qb_ HB1.out _))).mono ?_;rintro e w2 h2;obtain ⟨D2,N2,A2,m2,c2,b2,rfl,hb⟩:=h2.any;have HB2:=Aside0.mk (qh_ (qb_ HB1.out _) hb);have SR2:SrAt w2 (w.heap.size+2) 0 0 (.slice none 0 0):=(HSR.out.alloc _).below hb;have x0:(w2.alloc (.cells #[.int .i64 D2,.int .i64 N2,.slice A2 m2 c2] 38)).cell? ⟨w.heap.size+1+1,0,none⟩=some (.int .i64 0):=(SrAt.alloc SR2 _).c0;have f0:(w2.alloc (.cells #[.int .i64 D2,.int .i64 N2,.slice A2 m2 c2] 38)).frozen? ⟨w.heap.size+1+1,0,none⟩=false:=qd_ (SrAt.alloc SR2 (.cells #[.int .i64 D2,.int .i64 N2,.slice A2 m2 c2] 38)) 0;have x1:(w2.alloc (.cells #[.int .i64 D2,.int .i64 N2,.slice A2 m2 c2] 38)).cell? ⟨w.heap.size+1+1,1,none⟩=some (.int .i64 0):=(SrAt.alloc SR2 _).c1;have f1:(w2.alloc (.cells #[.int .i64 D2,.int .i64 N2,.slice A2 m2 c2] 38)).frozen? ⟨w.heap.size+1+1,1,none⟩=false:=qd_ (SrAt.alloc SR2 (.cells #[.int .i64 D2,.int .i64 N2,.slice A2 m2 c2] 38)) 1;have x2:(w2.alloc (.cells #[.int .i64 D2,.int .i64 N2,.slice A2 m2 c2] 38)).cell? ⟨w.heap.size+1+1,2,none⟩=some (.slice none 0 0):=(SrAt.alloc SR2 _).c2;have f2:(w2.alloc (.cells #[.int .i64 D2,.int .i64 N2,.slice A2 m2 c2] 38)).frozen? ⟨w.heap.size+1+1,2,none⟩=false:=qd_ (SrAt.alloc SR2 (.cells #[.int .i64 D2,.int .i64 N2,.slice A2 m2 c2] 38)) 2;have HSR2:=Aside0.mk SR2;clear SR2 h2 hb))
  refine bodyPost_ret (results_ct rfl _ _ (w.heap.size+2) 38 _ (0,0) _ rfl (qh1_ (qh1_ (qh1_ (HSR2.out.alloc _) 0 _) 1 _) 2 _) hu2 rfl (by kernel_rfl)) rfl ?_
  rw [HRN.out]
  exact ⟨_,rfl,Kd.R_nil _ _ _ _ _,(((qb_ HB2.out _).setCell (Nat.le_add_right _ 2) _).setCell (Nat.le_add_right _ 2) _).setCell (Nat.le_add_right _ 2) _⟩
set_option maxHeartbeats 32000000 in
set_option maxRecDepth 100000 in
theorem commS_2 (w:World) (d n:Nat) (hs:Sz d n) {t u:Tb} (ht:Like t (zeroT d n)) (hu:Like u (zeroT d n)) (hbt:t.bad=false) (hbu:u.bad=false) (hb1:(timesT t u).bad=false) (hb2:(timesT u t).bad=true) {A B:Option Addr} {ca cb:Nat} (hA:TmsC w A ca (termsT t)) (hB:TmsC w B cb (termsT u)) :
    Calls Try.prog 109 #[.agg #[.int .i64 (d:Int),.int .i64 (n:Int),.slice A (termsT t).length ca],.agg #[.int .i64 (d:Int),.int .i64 (n:Int),.slice B (termsT u).length cb]] w (OutR w d n (outT (commT t u))):=by
  have hu2:=Try.underlying38
  have hu3:=Try.underlying77
  obtain ⟨l1,hl1⟩:∃ o,o=termsT (timesT t u):=⟨_,rfl⟩
  have HT1:=Aside0.mk (show ∀ W,TmsC W A ca (termsT t)→TmsC W B cb (termsT u)→Calls Try.prog 133 #[.agg #[.int .i64 (d:Int),.int .i64 (n:Int),.slice A (termsT t).length ca],.agg #[.int .i64 (d:Int),.int .i64 (n:Int),.slice B (termsT u).length cb]] W (OkRes W d n l1 true) from fun W h1 h2=>by have:=timesS W d n hs ht hu hbt hbu h1 h2;rw [outT_good hb1,← hl1] at this;exact this)
  have HT2:=Aside0.mk (show ∀ W,TmsC W B cb (termsT u)→TmsC W A ca (termsT t)→Calls Try.prog 133 #[.agg #[.int .i64 (d:Int),.int .i64 (n:Int),.slice B (termsT u).length cb],.agg #[.int .i64 (d:Int),.int .i64 (n:Int),.slice A (termsT t).length ca]] W (OkRes W 0 0 [] false) from fun W h1 h2=>by have:=timesS W d n hs hu ht hbu hbt h1 h2;rw [outT_bad hb2] at this;exact this)
  have HRN:=Aside0.mk (show outT (commT t u)=none from outT_bad (commT_bad (Or.inr hb2)))
  generalize outT (commT t u)=R at HRN ⊢
  generalize termsT t=lt at hA HT1 HT2 ⊢
  generalize termsT u=lu at hB HT1 HT2 ⊢
  have HA:=Aside0.mk hA
  have HB:=Aside0.mk hB
  clear hl1 hb2 hA hB ht hu hbt hbu hb1 hs
  obtain ⟨flag,hflag⟩:∃ b:Nat,b=0:=⟨0,rfl⟩
  go_enter Try.func109,Try.ntmps109
  go_wp2_with (first
    | (go_at_call 133;clear hflag;refine (HT1.out _ (HA.out.below (qb_ (qb_ (qb_ (Below.refl _ _) _) _) _)) (HB.out.below (qb_ (qb_ (qb_ (Below.refl _ _) _) _) _))).mono ?_;rintro e w1 h1;obtain ⟨v1,rfl,hv1,hb⟩:=h1;obtain ⟨A1,c1,rfl⟩:=Kd.qg2_ hv1;have HB1:=Aside0.mk (show Below w.heap.size w w1 from qh_ (qb_ (qb_ (qb_ (Below.refl _ _) _) _) _) hb);have SX:SrAt w1 w.heap.size d n (.slice A lt.length ca):=qm_ (old_at (old_at (new_at rfl))) hb;have SY:SrAt w1 (w.heap.size+1) d n (.slice B lu.length cb):=qm_ (old_at (new_at (by simp))) hb;have SR:SrAt w1 (w.heap.size+2) 0 0 (.slice none 0 0):=qm_ (new_at (by simp)) hb;have eSX0:(w1.alloc (.cells #[.int .i64 (d:Int),.int .i64 (n:Int),.slice A1 l1.length c1] 38)).cell? ⟨w.heap.size,0,none⟩=some (.int .i64 (d:Int)):=(SrAt.alloc SX _).c0;have eSX1:(w1.alloc (.cells #[.int .i64 (d:Int),.int .i64 (n:Int),.slice A1 l1.length c1] 38)).cell? ⟨w.heap.size,1,none⟩=some (.int .i64 (n:Int)):=(SrAt.alloc SX _).c1;have eSX2:(w1.alloc (.cells #[.int .i64 (d:Int),.int .i64 (n:Int),.slice A1 l1.length c1] 38)).cell? ⟨w.heap.size,2,none⟩=some (.slice A lt.length ca):=(SrAt.alloc SX _).c2;have eSY0:(w1.alloc (.cells #[.int .i64 (d:Int),.int .i64 (n:Int),.slice A1 l1.length c1] 38)).cell? ⟨w.heap.size+1,0,none⟩=some (.int .i64 (d:Int)):=(SrAt.alloc SY _).c0;have eSY1:(w1.alloc (.cells #[.int .i64 (d:Int),.int .i64 (n:Int),.slice A1 l1.length c1] 38)).cell? ⟨w.heap.size+1,1,none⟩=some (.int .i64 (n:Int)):=(SrAt.alloc SY _).c1;have eSY2:(w1.alloc (.cells #[.int .i64 (d:Int),.int .i64 (n:Int),.slice A1 l1.length c1] 38)).cell? ⟨w.heap.size+1,2,none⟩=some (.slice B lu.length cb):=(SrAt.alloc SY _).c2;have HSX:=Aside0.mk SX;have HSY:=Aside0.mk SY;have HSR:=Aside0.mk SR;have HV1:=Aside0.mk hv1;clear SX SY SR hv1 hb)
    | (go_at_call 133;refine (HT2.out _ (HB.out.below (qb_ HB1.out _)) (HA.out.below (qb_ HB1.out _))).mono ?_;rintro e w2 h2;obtain ⟨v2,rfl,hv2,hb⟩:=h2;obtain ⟨A2,c2,rfl⟩:=Kd.qg2_ hv2;have HB2:=Aside0.mk (qh_ (qb_ HB1.out _) hb);have SR2:SrAt w2 (w.heap.size+2) 0 0 (.slice none 0 0):=(HSR.out.alloc _).below hb;have x0:(w2.alloc (.cells #[.int .i64 0,.int .i64 0,.slice A2 0 c2] 38)).cell? ⟨w.heap.size+1+1,0,none⟩=some (.int .i64 0):=(SrAt.alloc SR2 _).c0;have f0:(w2.alloc (.cells #[.int .i64 0,.int .i64 0,.slice A2 0 c2] 38)).frozen? ⟨w.heap.size+1+1,0,none⟩=false:=qd_ (SrAt.alloc SR2 (.cells #[.int .i64 0,.int .i64 0,.slice A2 0 c2] 38)) 0;have x1:(w2.alloc (.cells #[.int .i64 0,.int .i64 0,.slice A2 0 c2] 38)).cell? ⟨w.heap.size+1+1,1,none⟩=some (.int .i64 0):=(SrAt.alloc SR2 _).c1;have f1:(w2.alloc (.cells #[.int .i64 0,.int .i64 0,.slice A2 0 c2] 38)).frozen? ⟨w.heap.size+1+1,1,none⟩=false:=qd_ (SrAt.alloc SR2 (.cells #[.int .i64 0,.int .i64 0,.slice A2 0 c2] 38)) 1;have x2:(w2.alloc (.cells #[.int .i64 0,.int .i64 0,.slice A2 0 c2] 38)).cell? ⟨w.heap.size+1+1,2,none⟩=some (.slice none 0 0):=(SrAt.alloc SR2 _).c2;have f2:(w2.alloc (.cells #[.int .i64 0,.int .i64 0,.slice A2 0 c2] 38)).frozen? ⟨w.heap.size+1+1,2,none⟩=false:=qd_ (SrAt.alloc SR2 (.cells #[.int .i64 0,.int .i64 0,.slice A2 0 c2] 38)) 2;have HSR2:=Aside0.mk SR2;clear SR2 hv2 hb))
  refine bodyPost_ret (results_ct rfl _ _ (w.heap.size+2) 38 _ (0,0) _ rfl (qh1_ (qh1_ (qh1_ (HSR2.out.alloc _) 0 _) 1 _) 2 _) hu2 rfl (by kernel_rfl)) rfl ?_
  rw [HRN.out]
  exact ⟨_,rfl,Kd.R_nil _ _ _ _ _,(((qb_ HB2.out _).setCell (Nat.le_add_right _ 2) _).setCell (Nat.le_add_right _ 2) _).setCell (Nat.le_add_right _ 2) _⟩
set_option maxHeartbeats 32000000 in
set_option maxRecDepth 100000 in
theorem commS_3 (w:World) (d n:Nat) (hs:Sz d n) {t u:Tb} (ht:Like t (zeroT d n)) (hu:Like u (zeroT d n)) (hbt:t.bad=false) (hbu:u.bad=false) (hb1:(timesT t u).bad=false) (hb2:(timesT u t).bad=false) {A B:Option Addr} {ca cb:Nat} (hA:TmsC w A ca (termsT t)) (hB:TmsC w B cb (termsT u)) :
    Calls Try.prog 109 #[.agg #[.int .i64 (d:Int),.int .i64 (n:Int),.slice A (termsT t).length ca],.agg #[.int .i64 (d:Int),.int .i64 (n:Int),.slice B (termsT u).length cb]] w (OutR w d n (outT (commT t u))):=by
  have hu2:=Try.underlying38
  have hu3:=Try.underlying77
  have hlk1:=timesT_like' (u:=u) ht
  have hlk2:=timesT_like' (u:=t) hu
  obtain ⟨l1,hl1⟩:∃ o,o=termsT (timesT t u):=⟨_,rfl⟩
  obtain ⟨l2,hl2⟩:∃ o,o=termsT (timesT u t):=⟨_,rfl⟩
  have HT1:=Aside0.mk (show ∀ W,TmsC W A ca (termsT t)→TmsC W B cb (termsT u)→Calls Try.prog 133 #[.agg #[.int .i64 (d:Int),.int .i64 (n:Int),.slice A (termsT t).length ca],.agg #[.int .i64 (d:Int),.int .i64 (n:Int),.slice B (termsT u).length cb]] W (OkRes W d n l1 true) from fun W h1 h2=>by have:=timesS W d n hs ht hu hbt hbu h1 h2;rw [outT_good hb1,← hl1] at this;exact this)
  have HT2:=Aside0.mk (show ∀ W,TmsC W B cb (termsT u)→TmsC W A ca (termsT t)→Calls Try.prog 133 #[.agg #[.int .i64 (d:Int),.int .i64 (n:Int),.slice B (termsT u).length cb],.agg #[.int .i64 (d:Int),.int .i64 (n:Int),.slice A (termsT t).length ca]] W (OkRes W d n l2 true) from fun W h1 h2=>by have:=timesS W d n hs hu ht hbu hbt h1 h2;rw [outT_good hb2,← hl2] at this;exact this)
  have hz1:l1.length≤20000:=by rw [hl1];exact terms_len hlk1 hs
  have hz2:l2.length≤20000:=by rw [hl2];exact terms_len hlk2 hs
  have HAD:=Aside0.mk (show ∀ W A1 c1 A2 c2,TmsC W A1 c1 l1→TmsC W A2 c2 l2→Calls Try.prog 125 #[.agg #[.int .i64 (d:Int),.int .i64 (n:Int),.slice A1 l1.length c1],.agg #[.int .i64 (d:Int),.int .i64 (n:Int),.slice A2 l2.length c2],.agg #[.int .i64 (-1),.int .i64 1]] W (OutR W d n (outT (commT t u))) from fun W A1 c1 A2 c2 h1 h2=>by
    have:=addFS W d n d n h1 h2 (by rw [hl1];exact terms_okL hlk1.2.2) (by rw [hl2];exact terms_okL hlk2.2.2) (by omega) negF neg_okF
    rw [hl1,hl2,addS_terms (timesT t u) (timesT u t) (zeroT d n) hs hlk1 hlk2 hb1 hb2 negF neg_okF (by decide)] at this
    rw [hl1,hl2]
    exact this)
  have HZ1:=Aside0.mk hz1
  have HZ2:=Aside0.mk hz2
  generalize outT (commT t u)=R at HAD ⊢
  generalize termsT t=lt at hA HT1 HT2 ⊢
  generalize termsT u=lu at hB HT1 HT2 ⊢
  have HA:=Aside0.mk hA
  have HB:=Aside0.mk hB
  clear hl1 hl2 hlk1 hlk2 hz1 hz2 hb2 hA hB ht hu hbt hbu hb1 hs
  obtain ⟨flag,hflag⟩:∃ b:Nat,b=0:=⟨0,rfl⟩
  go_enter Try.func109,Try.ntmps109
  go_wp2_with (first
    | (go_at_call 133;clear hflag;refine (HT1.out _ (HA.out.below (qb_ (qb_ (qb_ (Below.refl _ _) _) _) _)) (HB.out.below (qb_ (qb_ (qb_ (Below.refl _ _) _) _) _))).mono ?_;rintro e w1 h1;obtain ⟨v1,rfl,hv1,hb⟩:=h1;obtain ⟨A1,c1,rfl⟩:=Kd.qg2_ hv1;have HB1:=Aside0.mk (show Below w.heap.size w w1 from qh_ (qb_ (qb_ (qb_ (Below.refl _ _) _) _) _) hb);have SX:SrAt w1 w.heap.size d n (.slice A lt.length ca):=qm_ (old_at (old_at (new_at rfl))) hb;have SY:SrAt w1 (w.heap.size+1) d n (.slice B lu.length cb):=qm_ (old_at (new_at (by simp))) hb;have SR:SrAt w1 (w.heap.size+2) 0 0 (.slice none 0 0):=qm_ (new_at (by simp)) hb;have eSX0:(w1.alloc (.cells #[.int .i64 (d:Int),.int .i64 (n:Int),.slice A1 l1.length c1] 38)).cell? ⟨w.heap.size,0,none⟩=some (.int .i64 (d:Int)):=(SrAt.alloc SX _).c0;have eSX1:(w1.alloc (.cells #[.int .i64 (d:Int),.int .i64 (n:Int),.slice A1 l1.length c1] 38)).cell? ⟨w.heap.size,1,none⟩=some (.int .i64 (n:Int)):=(SrAt.alloc SX _).c1;have eSX2:(w1.alloc (.cells #[.int .i64 (d:Int),.int .i64 (n:Int),.slice A1 l1.length c1] 38)).cell? ⟨w.heap.size,2,none⟩=some (.slice A lt.length ca):=(SrAt.alloc SX _).c2;have eSY0:(w1.alloc (.cells #[.int .i64 (d:Int),.int .i64 (n:Int),.slice A1 l1.length c1] 38)).cell? ⟨w.heap.size+1,0,none⟩=some (.int .i64 (d:Int)):=(SrAt.alloc SY _).c0;have eSY1:(w1.alloc (.cells #[.int .i64 (d:Int),.int .i64 (n:Int),.slice A1 l1.length c1] 38)).cell? ⟨w.heap.size+1,1,none⟩=some (.int .i64 (n:Int)):=(SrAt.alloc SY _).c1;have eSY2:(w1.alloc (.cells #[.int .i64 (d:Int),.int .i64 (n:Int),.slice A1 l1.length c1] 38)).cell? ⟨w.heap.size+1,2,none⟩=some (.slice B lu.length cb):=(SrAt.alloc SY _).c2;have HSX:=Aside0.mk SX;have HSY:=Aside0.mk SY;have HSR:=Aside0.mk SR;have HV1:=Aside0.mk hv1;clear SX SY SR hv1 hb)
    | (go_at_call 133;refine (HT2.out _ (HB.out.below (qb_ HB1.out _)) (HA.out.below (qb_ HB1.out _))).mono ?_;rintro e w2 h2;obtain ⟨v2,rfl,hv2,hb⟩:=h2;obtain ⟨A2,c2,rfl⟩:=Kd.qg2_ hv2;have HB2:=Aside0.mk (qh_ (qb_ HB1.out _) hb);have HSR2:=Aside0.mk ((HSR.out.alloc (.cells #[.int .i64 (d:Int),.int .i64 (n:Int),.slice A1 l1.length c1] 38)).below hb);have HS6:=Aside0.mk (show SrAt w2 w1.heap.size d n (.slice A1 l1.length c1) from qm_ (new_at rfl) hb);have HV12:=Aside0.mk (show TermsR w2 w.heap.size (.slice A1 l1.length c1) l1 from Kd.qi2_ (Kd.qq1_ (Kd.qn2_ HV1.out (qk_ (qb_ (qb_ (qb_ (Below.refl w.heap.size w) _) _) _))) _) hb);have HV2:=Aside0.mk (show TermsR w2 w.heap.size (.slice A2 l2.length c2) l2 from Kd.qn2_ hv2 (qk_ (qb_ HB1.out _)));clear hv2 hb))
  generalize hW:World.alloc w2 _=W5
  have S6:SrAt W5 w1.heap.size d n (.slice A1 l1.length c1):=by rw [← hW];exact HS6.out.alloc _
  have S8:SrAt W5 w2.heap.size d n (.slice A2 l2.length c2):=by rw [← hW];exact new_at rfl
  have HC1:=Aside0.mk (show TmsC W5 A1 c1 l1 from by rw [← hW];exact (TmsC.of (Kd.qq1_ HV12.out _) (by have:=HZ1.out;omega)).1)
  have HC2:=Aside0.mk (show TmsC W5 A2 c2 l2 from by rw [← hW];exact (TmsC.of (Kd.qq1_ HV2.out _) (by have:=HZ2.out;omega)).1)
  have HB5:=Aside0.mk (show Below w.heap.size w W5 from by rw [← hW];exact qb_ HB2.out _)
  have HSR5:=Aside0.mk (show SrAt W5 (w.heap.size+2) 0 0 (.slice none 0 0) from by rw [← hW];exact HSR2.out.alloc _)
  have p0:=S6.c0
  have p1:=S6.c1
  have p2:=S6.c2
  have q0:=S8.c0
  have q1:=S8.c1
  have q2:=S8.c2
  clear hW S6 S8 HSX HSY HSR HSR2 HS6 HV1 HV12 HV2 eSX0 eSX1 eSX2 eSY0 eSY1 eSY2
  go_cut [10,11] (fun v10 v11 wx=>∃ (b9:Nat) (D N:Int) (Ax:Option Addr) (cx:Nat) (l:List S79) (ok:Bool),v10=.pointer (some ⟨b9,0,none⟩)∧v11=.bool ok∧Aside0 (SrAt wx b9 D N (.slice Ax l.length cx))∧Aside0 (TermsR wx w.heap.size (.slice Ax l.length cx) l)∧Aside0 (OutV d n R D N l ok)∧Aside0 (Below W5.heap.size W5 wx))
  case first =>
    go_region_held3 (fun w'=>w'.cell? ⟨w1.heap.size,0,none⟩=some (.int .i64 (d:Int))∧w'.cell? ⟨w1.heap.size,1,none⟩=some (.int .i64 (n:Int))∧w'.cell? ⟨w1.heap.size,2,none⟩=some (.slice A1 l1.length c1)∧w'.cell? ⟨w2.heap.size,0,none⟩=some (.int .i64 (d:Int))∧w'.cell? ⟨w2.heap.size,1,none⟩=some (.int .i64 (n:Int))∧w'.cell? ⟨w2.heap.size,2,none⟩=some (.slice A2 l2.length c2)) (exact keep6 p0 p1 p2 q0 q1 q2 (by (repeat' (first|(with_reducible exact Below.refl _ _)|(with_reducible exact HB7.out)|(with_reducible exact HB6.out)|(with_reducible refine Below.setCell ?_ ?_ _)|(with_reducible refine qc_ ?_)|(with_reducible refine qa_ ?_ _)|(with_reducible refine qb_ ?_ _)|(simp;done)|(simp;omega)|(have h6_:=HB6.out.size;simp;omega)|(have h7_:=HB7.out.size;simp;omega))))) (first
      | (go_at_call 124;refine (oneS _ (-1)).mono ?_;rintro e w6 ⟨rfl,hb⟩;have HB6:=Aside0.mk (show Below W5.heap.size W5 w6 from qh_ (by repeat (first|(with_reducible exact Below.refl _ _)|(with_reducible refine qc_ ?_)|(with_reducible refine qa_ ?_ _)|(with_reducible refine qb_ ?_ _))) hb);first|(refine (fun (Z:w6.heap[W5.heap.size]?=some (.cells #[.int .i64 0,.int .i64 0,.slice none 0 0] 38 (0,0)))=>?_) (qm_ ?_ hb);rotate_left;(first|exact drew_at (new_at rfl)|exact new_at rfl);have HZZ:=Aside0.mk Z;have z0:=qg_ Z 0;have z1:=qg_ Z 1;have z2:=qg_ Z 2;have zf0:=qd_ Z 0;have zf1:=qd_ Z 1;have zf2:=qd_ Z 2;clear Z)|skip;clear hb)
      | (go_at_call 125;refine (HAD.out _ _ _ _ _ (HC1.out.below (by repeat (first|(with_reducible exact Below.refl _ _)|(with_reducible exact HB6.out)|(with_reducible refine qc_ ?_)|(with_reducible refine qa_ ?_ _)|(with_reducible refine qb_ ?_ _)))) (HC2.out.below (by repeat (first|(with_reducible exact Below.refl _ _)|(with_reducible exact HB6.out)|(with_reducible refine qc_ ?_)|(with_reducible refine qa_ ?_ _)|(with_reducible refine qb_ ?_ _))))).mono ?_;rintro e w7 h7;obtain ⟨D7,N7,A7,c7,l7,ok7,rfl,ho7,hv7,hb⟩:=h7.val;have HB7:=Aside0.mk (show Below W5.heap.size W5 w7 from qh_ (by repeat (first|(with_reducible exact Below.refl _ _)|(with_reducible exact HB6.out)|(with_reducible refine qc_ ?_)|(with_reducible refine qa_ ?_ _)|(with_reducible refine qb_ ?_ _))) hb);have HO7:=Aside0.mk ho7;have HV7:=Aside0.mk (show TermsR w7 w.heap.size (.slice A7 l7.length c7) l7 from Kd.qn2_ hv7 (Nat.le_trans HB5.out.size (qk_ (show Below W5.heap.size W5 _ from (by repeat (first|(with_reducible exact Below.refl _ _)|(with_reducible exact HB6.out)|(with_reducible refine qc_ ?_)|(with_reducible refine qa_ ?_ _)|(with_reducible refine qb_ ?_ _)))))));first|(refine (fun (Z:w7.heap[W5.heap.size]?=some (.cells #[.int .i64 0,.int .i64 0,.slice none 0 0] 38 (0,0)))=>?_) (qm_ ?_ hb);rotate_left;(first|exact HZZ.out|exact drew_at HZZ.out);have HZZ:=Aside0.mk Z;have z0:=qg_ Z 0;have z1:=qg_ Z 1;have z2:=qg_ Z 2;have zf0:=qd_ Z 0;have zf1:=qd_ Z 1;have zf2:=qd_ Z 2;clear Z)|(refine (fun (Z:w7.heap[w6.heap.size]?=some (.cells #[.int .i64 0,.int .i64 0,.slice none 0 0] 38 (0,0)))=>?_) (qm_ ?_ hb);rotate_left;(first|exact drew_at (new_at rfl)|exact new_at rfl);have HZZ:=Aside0.mk Z;have z0:=qg_ Z 0;have z1:=qg_ Z 1;have z2:=qg_ Z 2;have zf0:=qd_ Z 0;have zf1:=qd_ Z 1;have zf2:=qd_ Z 2;clear Z)|skip;clear h7 ho7 hv7 hb))
    all_goals
      go_wp2_with fail
      go_meet
      case rel =>
        refine ⟨_,D7,N7,A7,c7,l7,ok7,rfl,rfl,⟨?_⟩,⟨?_⟩,HO7,⟨?_⟩⟩
        · (repeat' (first|((with_reducible refine SrAt.new ?_);simp;done)|(with_reducible refine SrAt.put3 ?_ _ _ _)|(with_reducible exact HZZ.out)|(with_reducible refine SrAt.alloc ?_ _)|(with_reducible refine SrAt.drew ?_)|(with_reducible refine drewN_at ?_)|(with_reducible refine drew_at ?_)|((with_reducible refine new_at ?_);simp;done)|(with_reducible refine old_at ?_)))
        · (repeat' (first|(with_reducible exact HV7.out)|(with_reducible exact Kd.qq1_ HV7.out _)|(with_reducible refine Kd.qq1_ ?_ _)|(with_reducible refine Kd.R_drew ?_)|exact Kd.R_set (Kd.R_set (Kd.R_set HV7.out HZZ.out (by decide) 0 _) (qh1_ HZZ.out 0 _) (by decide) 1 _) (qh1_ (qh1_ HZZ.out 0 _) 1 _) (by decide) 2 _))
        · (repeat' (first|(with_reducible exact Below.refl _ _)|(with_reducible exact HB7.out)|(with_reducible exact HB6.out)|(with_reducible refine Below.setCell ?_ ?_ _)|(with_reducible refine qc_ ?_)|(with_reducible refine qa_ ?_ _)|(with_reducible refine qb_ ?_ _)|(simp;done)|(simp;omega)|(have h6_:=HB6.out.size;simp;omega)|(have h7_:=HB7.out.size;simp;omega)))
  case rest =>
    obtain ⟨b9,D,N,Ax,cx,l,ok,rfl,rfl,HS9,HV9,HO9,HM9⟩:=hcut
    have HB9:=Aside0.mk (qh_ HB5.out HM9.out)
    have y0:=HS9.out.c0
    have y1:=HS9.out.c1
    have y2:=HS9.out.c2
    have SR:=HSR5.out.below HM9.out
    have x0:wc.cell? ⟨w.heap.size+1+1,0,none⟩=some (.int .i64 0):=SR.c0
    have x1:wc.cell? ⟨w.heap.size+1+1,1,none⟩=some (.int .i64 0):=SR.c1
    have x2:wc.cell? ⟨w.heap.size+1+1,2,none⟩=some (.slice none 0 0):=SR.c2
    have f0:wc.frozen? ⟨w.heap.size+1+1,0,none⟩=false:=qd_ SR 0
    have f1:wc.frozen? ⟨w.heap.size+1+1,1,none⟩=false:=qd_ SR 1
    have f2:wc.frozen? ⟨w.heap.size+1+1,2,none⟩=false:=qd_ SR 2
    have HSR9:=Aside0.mk SR
    clear SR p0 p1 p2 q0 q1 q2
    go_wp2
    refine bodyPost_ret (results_ct rfl _ _ (w.heap.size+2) 38 _ (0,0) _ rfl (qh1_ (qh1_ (qh1_ HSR9.out 0 _) 1 _) 2 _) hu2 rfl (by kernel_rfl)) rfl ?_
    refine OutR.of HO9.out ?_ (((HB9.out.setCell (Nat.le_add_right _ 2) _).setCell (Nat.le_add_right _ 2) _).setCell (Nat.le_add_right _ 2) _)
    exact Kd.R_set (Kd.R_set (Kd.R_set HV9.out HSR9.out (by decide) 0 _) (qh1_ HSR9.out 0 _) (by decide) 1 _) (qh1_ (qh1_ HSR9.out 0 _) 1 _) (by decide) 2 _
theorem commS (w:World) (d n:Nat) (hs:Sz d n) {t u:Tb} (ht:Like t (zeroT d n)) (hu:Like u (zeroT d n)) (hbt:t.bad=false) (hbu:u.bad=false) {A B:Option Addr} {ca cb:Nat} (hA:TmsC w A ca (termsT t)) (hB:TmsC w B cb (termsT u)) :
    Calls Try.prog 109 #[.agg #[.int .i64 (d:Int),.int .i64 (n:Int),.slice A (termsT t).length ca],.agg #[.int .i64 (d:Int),.int .i64 (n:Int),.slice B (termsT u).length cb]] w (OutR w d n (outT (commT t u))):=by
  cases h1:(timesT t u).bad with
  | true=>exact commS_1 w d n hs ht hu hbt hbu h1 hA hB
  | false =>
    cases h2:(timesT u t).bad with
    | true=>exact commS_2 w d n hs ht hu hbt hbu h1 h2 hA hB
    | false=>exact commS_3 w d n hs ht hu hbt hbu h1 h2 hA hB
end Go.Proofs.Ytaiefdhenikiiaa.Base
namespace Go.Proofs.Ytaiefdhenikiiaa.Base
open Go.RowKit Go.Proofs.YtaiefdhenikiiaaW.PrintWords Go.Proofs.YtaiefdhenikiiaaW.PrintLast Go.Proofs.YtaiefdhenikiiaaW.PrintMore
set_option linter.unusedVariables false
set_option linter.unusedSimpArgs false
theorem letterS (W:World) (D N:Int) {A:Option Addr} {c:Nat} {l:List S79} (H:TmsC W A c l) (s:ByteArray):Calls Try.prog 162 #[.agg #[.int .i64 D,.int .i64 N,.slice A l.length c],.string s] W fun e w'=>∃ v:Value,e=.returned (.agg #[.int .i64 D,.int .i64 N,v])∧TermsR w' W.heap.size v [⟨s,oneF⟩]∧Below W.heap.size W w' :=
  qj2_.calls _ _ _ _ _ _ _ _ _ _ H.row H.cap rfl
theorem keep3 {w W:World} {a1 a2 a3:Addr} {v1 v2 v3:Value} (p1:w.cell? a1=some v1) (p2:w.cell? a2=some v2) (p3:w.cell? a3=some v3) (hb:Below w.heap.size w W) :
    W.cell? a1=some v1∧W.cell? a2=some v2∧W.cell? a3=some v3:=⟨qt_ hb p1,qt_ hb p2,qt_ hb p3⟩
end Go.Proofs.Ytaiefdhenikiiaa.Base
namespace Go.Proofs.Ytaiefdhenikiiaa.Base
open Go.RowKit Go.Proofs.YtaiefdhenikiiaaW.PrintWords Go.Proofs.YtaiefdhenikiiaaW.PrintLast Go.Proofs.YtaiefdhenikiiaaW.PrintMore
set_option linter.unusedVariables false
set_option linter.unusedSimpArgs false
theorem lynV_enc {l:List Nat} (hl:∀ i ∈ l,i < 100) (hs:l.length≤1000000):lynV (encW l)=lynN l :=
  ev_unique (lynV_both (encW l) (by rw [encW_size];omega)).1 (lyn_is l hl hs)
theorem cutFrom_stop (l:List Nat) (i:Nat):∀ m,lynN (l.drop i)=true→cutFrom l i m=i
  | 0,_=>rfl
  | m+1,h=>by unfold cutFrom;rw [if_pos h]
theorem cutFrom_next (l:List Nat) (i:Nat) (m:Nat) (h:lynN (l.drop i)=false):cutFrom l i (m+1)=cutFrom l (i+1) m:=by
  conv=>lhs;unfold cutFrom
  rw [if_neg (by rw [h];simp)]
theorem lynS (W:World) {l:List Nat} (hl:∀ i ∈ l,i < 100) (hs:l.length≤1000000):Calls Try.prog 97 #[.string (encW l)] W fun e w'=>e=.returned (.bool (lynN l))∧Below W.heap.size W w':=by
  obtain ⟨k,hk⟩:=(lynV_both (encW l) (by rw [encW_size];omega)).2.rounds
  rw [lynV_enc hl hs] at hk
  refine (qk1_.calls k _ _ _ hk).mono ?_
  rintro e w' ⟨rfl,hd⟩
  exact ⟨rfl,hd.below⟩
set_option maxHeartbeats 32000000 in
set_option maxRecDepth 100000 in
theorem brackSp_one (w:World) (d n:Nat) (hs:Sz d n) (l:List Nat) (hl:isD d n l) (h1:l.length=1) {A:Option Addr} {ca:Nat} {lx:List S79} (hA:TmsC w A ca lx) :
    Calls Try.prog 98 #[.agg #[.int .i64 (d:Int),.int .i64 (n:Int),.slice A lx.length ca],.string (encW l)] w (OutR w d n (outT (letterT d n l))):=by
  have hu2:=Try.underlying38
  have HA:=Aside0.mk hA
  have hsz:(encW l).size=1:=by rw [encW_size,h1]
  have HRN:=Aside0.mk (show outT (letterT d n l)=some [⟨encW l,oneF⟩] from by rw [outT_good (letterT_good d n l),letter_terms hs hl])
  generalize outT (letterT d n l)=R at HRN ⊢
  clear hA hs hl
  go_enter Try.func98,Try.ntmps98
  go_wp2_with (go_at_call 162;refine (letterS _ d n (HA.out.below (qb_ (qb_ (Below.refl _ _) _) _)) _).mono ?_;rintro e w1 ⟨v,rfl,hv,hb⟩;obtain ⟨A1,c1,rfl⟩:=Kd.qg2_ hv;have HB1:=Aside0.mk (show Below w.heap.size w w1 from qh_ (qb_ (qb_ (Below.refl _ _) _) _) hb);have HV1:=Aside0.mk (Kd.qn2_ hv (qk_ (qb_ (qb_ (Below.refl w.heap.size w) _) _)));have SR:SrAt w1 (w.heap.size+1) 0 0 (.slice none 0 0):=qm_ (new_at (by simp)) hb;have x0:=SR.c0;have x1:=SR.c1;have x2:=SR.c2;have f0:=qd_ SR 0;have f1:=qd_ SR 1;have f2:=qd_ SR 2;have HSRX:=Aside0.mk SR;clear SR hv hb)
  refine bodyPost_ret (results_ct rfl _ _ (w.heap.size+1) 38 _ (0,0) _ rfl (qh1_ (qh1_ (qh1_ HSRX.out 0 _) 1 _) 2 _) hu2 rfl (by kernel_rfl)) rfl ?_
  rw [HRN.out]
  refine ⟨_,rfl,?_,((HB1.out.setCell (Nat.le_add_right _ 1) _).setCell (Nat.le_add_right _ 1) _).setCell (Nat.le_add_right _ 1) _⟩
  exact Kd.R_set (Kd.R_set (Kd.R_set HV1.out HSRX.out (by decide) 0 _) (qh1_ HSRX.out 0 _) (by decide) 1 _) (qh1_ (qh1_ HSRX.out 0 _) 1 _) (by decide) 2 _
theorem bracketN_bad1 {d n m:Nat} {l:List Nat} (h1:¬ l.length=1) (h:(bracketN d n m (l.take (cutI l))).bad=true):(bracketN d n (m+1) l).bad=true:=by
  show (if l.length=1 then letterT d n l else commT (bracketN d n m (l.take (cutI l))) (bracketN d n m (l.drop (cutI l)))).bad=true
  rw [if_neg h1];exact commT_bad (Or.inl (timesT_bad (Or.inl h)))
theorem bracketN_bad2 {d n m:Nat} {l:List Nat} (h1:¬ l.length=1) (h:(bracketN d n m (l.drop (cutI l))).bad=true):(bracketN d n (m+1) l).bad=true:=by
  show (if l.length=1 then letterT d n l else commT (bracketN d n m (l.take (cutI l))) (bracketN d n m (l.drop (cutI l)))).bad=true
  rw [if_neg h1];exact commT_bad (Or.inl (timesT_bad (Or.inr h)))
set_option maxHeartbeats 32000000 in
set_option maxRecDepth 100000 in
theorem brackSp (d n:Nat) (hs:Sz d n) (m:Nat):∀ (l:List Nat) (w:World) (A:Option Addr) (ca:Nat) (lx:List S79),isD d n l→1≤l.length→l.length≤m+1→TmsC w A ca lx →
    Calls Try.prog 98 #[.agg #[.int .i64 (d:Int),.int .i64 (n:Int),.slice A lx.length ca],.string (encW l)] w (OutR w d n (outT (bracketN d n m l))):=by
  induction m with
  | zero=>intro l w A ca lx hl h1 h2 hA;exact brackSp_one w d n hs l hl (by omega) hA
  | succ m ih =>
    intro l w A ca lx hl h1 h2 hA
    by_cases c1:l.length=1
    · unfold bracketN;rw [if_pos c1];exact brackSp_one w d n hs l hl c1 hA
    · have hu2:=Try.underlying38
      have hc:=cutI_lt (l:=l) (by omega)
      have hsz:(encW l).size=l.length:=encW_size l
      have hz1:¬ ((l.length:Int)=1):=by omega
      have hzb:((l.length:Int) == 1)=false:=by rw [beq_eq_false_iff_ne];exact hz1
      obtain ⟨T1,hT1⟩:∃ T,T=bracketN d n m (l.take (cutI l)):=⟨_,rfl⟩
      obtain ⟨T2,hT2⟩:∃ T,T=bracketN d n m (l.drop (cutI l)):=⟨_,rfl⟩
      have HK1:=Aside0.mk (show Like T1 (zeroT d n) from by rw [hT1];exact bracketN_like hs m _)
      have HK2:=Aside0.mk (show Like T2 (zeroT d n) from by rw [hT2];exact bracketN_like hs m _)
      obtain ⟨R,hR⟩:∃ R,R=outT (bracketN d n (m+1) l):=⟨_,rfl⟩
      have HR1:=Aside0.mk (show T1.bad=true→R=none from fun h=>by rw [hR];exact outT_bad (bracketN_bad1 c1 (by rw [← hT1];exact h)))
      have HR2:=Aside0.mk (show T2.bad=true→R=none from fun h=>by rw [hR];exact outT_bad (bracketN_bad2 c1 (by rw [← hT2];exact h)))
      have HR3:=Aside0.mk (show R=outT (commT T1 T2) from by
        rw [hR]
        show outT (if l.length=1 then letterT d n l else commT (bracketN d n m (l.take (cutI l))) (bracketN d n m (l.drop (cutI l))))=_
        rw [if_neg c1,hT1,hT2])
      rw [← hR]
      obtain ⟨q,hq⟩:∃ q,q=cutI l:=⟨_,rfl⟩
      rw [← hq] at hT1 hT2 hc
      have HS:=Aside0.mk hs
      have HL:=Aside0.mk hl
      have HA:=Aside0.mk hA
      have H8:=Aside0.mk (show l.length≤8 by have:=hl.1;have:=hs.n8;omega)
      have HI1:=Aside0.mk (show ∀ W A ca lx,TmsC W A ca lx→Calls Try.prog 98 #[.agg #[.int .i64 (d:Int),.int .i64 (n:Int),.slice A lx.length ca],.string ((encW l).extract 0 q)] W (OutR W d n (outT T1)) from fun W A ca lx H=>by
        rw [extract_enc l 0 q (Nat.zero_le _),List.drop_zero,hT1]
        exact ih (l.take q) W A ca lx (isD_take hl _) (by rw [List.length_take];omega) (by rw [List.length_take];omega) H)
      have HI2:=Aside0.mk (show ∀ W A ca lx,TmsC W A ca lx→Calls Try.prog 98 #[.agg #[.int .i64 (d:Int),.int .i64 (n:Int),.slice A lx.length ca],.string ((encW l).extract q l.length)] W (OutR W d n (outT T2)) from fun W A ca lx H=>by
        rw [extract_enc l q _ (by omega),List.take_length,hT2]
        exact ih (l.drop q) W A ca lx (isD_drop hl _) (by rw [List.length_drop];omega) (by rw [List.length_drop];omega) H)
      have HLY:=Aside0.mk (show ∀ W i,i < l.length→Calls Try.prog 97 #[.string ((encW l).extract i l.length)] W (fun e w'=>e=.returned (.bool (lynN (l.drop i)))∧Below W.heap.size W w') from fun W i hi=>by
        rw [extract_enc l i _ (by omega),List.take_length]
        exact lynS W (fun x hx=>isD_100 hl hs.d3 x (List.mem_of_mem_drop hx)) (by rw [List.length_drop];have:=hl.1;have:=hs.n8;omega))
      have HQ:=Aside0.mk (show cutFrom l 1 (l.length - 2)=q from by rw [hq];rfl)
      have HQC:=Aside0.mk hc
      have H2:=Aside0.mk (show 2≤l.length by omega)
      clear ih hR hT1 hT2 hq hl hs hA c1 hc h1 h2
      go_enter Try.func98,Try.ntmps98
      go_wp2
      generalize hW:World.alloc _ _=W0
      have HS0:=Aside0.mk (show SrAt W0 w.heap.size d n (.slice A lx.length ca) from by rw [← hW];exact old_at (new_at rfl))
      have HSR:=Aside0.mk (show SrAt W0 (w.heap.size+1) 0 0 (.slice none 0 0) from by rw [← hW];exact new_at (by simp))
      have HB0:=Aside0.mk (show Below w.heap.size w W0 from by rw [← hW];exact qb_ (qb_ (Below.refl _ _) _) _)
      clear hW
      go_loopg [6] l.length (fun gg v6 wr=>∃ j:Nat,1≤j∧j < l.length∧l.length - j≤gg∧v6=.int .i64 j∧Aside0 (cutFrom l j (l.length - 1 - j)=q)∧Aside0 (Below W0.heap.size W0 wr))
      case atStart=>exact ⟨1,Nat.le_refl _,by have:=H2.out;omega,by omega,rfl,⟨by rw [show l.length - 1 - 1=l.length - 2 by omega];exact HQ.out⟩,⟨Below.refl _ _⟩⟩
      case round =>
        obtain ⟨j,hj1,hj2,hg,rfl,HC,HB⟩:=hrel
        have hjz:(j:Int)≤(l.length:Int):=by omega
        have hjz2:(j:Int) < (l.length:Int):=by omega
        cases hly:lynN (l.drop j) with
        | false =>
          have HLF:=Aside0.mk (show ∀ W,_ from fun W=>hly ▸ HLY.out W j hj2)
          have HCN:=Aside0.mk (show cutFrom l (j+1) (l.length - 1 - (j+1))=q∧j+1 < l.length from by
            have h1:1≤l.length - 1 - j:=by
              rcases Nat.lt_or_ge 0 (l.length - 1 - j) with h|h
              · exact h
              · exfalso
                rw [lyn_one (l.drop j) (by rw [List.length_drop];omega)] at hly;cases hly
            have h2:=HC.out
            rw [show l.length - 1 - j=(l.length - 1 - (j+1))+1 by omega,cutFrom_next l j _ hly] at h2
            exact ⟨h2,by omega⟩)
          clear hly
          go_wp2_with (go_at_call 97;refine (HLF.out _).mono ?_;rintro e w1 ⟨rfl,hb⟩;have HB1:=Aside0.mk (qh_ HB.out hb);clear hb)
          go_roundg (l.length - (j+1))
          case measure=>omega
          case rel=>exact ⟨j+1,by omega,HCN.out.2,by omega,by have:=H8.out;first|rfl|(rw [w64 (by omega) (by omega)];rfl),⟨HCN.out.1⟩,HB1⟩
        | true =>
          have HLF:=Aside0.mk (show ∀ W,_ from fun W=>hly ▸ HLY.out W j hj2)
          have hjq:j=q:=by have:=HC.out;rw [cutFrom_stop l j _ hly] at this;exact this
          clear hly
          subst hjq
          go_wp2_with (go_at_call 97;refine (HLF.out _).mono ?_;rintro e w1 ⟨rfl,hb⟩;have HB1:=Aside0.mk (qh_ HB.out hb);clear hb)
          have p0:=(HS0.out.below HB1.out).c0
          have p1:=(HS0.out.below HB1.out).c1
          have p2:=(HS0.out.below HB1.out).c2
          have HTX:=Aside0.mk (HA.out.below (qh_ HB0.out HB1.out))
          go_cut [7,8] (fun v7 v8 wx=>∃ (b7:Nat) (D N:Int) (Ax:Option Addr) (cx:Nat) (l7:List S79) (ok:Bool),v7=.pointer (some ⟨b7,0,none⟩)∧v8=.bool ok∧Aside0 (SrAt wx b7 D N (.slice Ax l7.length cx))∧Aside0 (TermsR wx w.heap.size (.slice Ax l7.length cx) l7)∧Aside0 (OutV d n (outT T1) D N l7 ok)∧Aside0 (Below w1.heap.size w1 wx))
          case first =>
            go_region_held3 (fun w'=>w'.cell? ⟨w.heap.size,0,none⟩=some (.int .i64 (d:Int))∧w'.cell? ⟨w.heap.size,1,none⟩=some (.int .i64 (n:Int))∧w'.cell? ⟨w.heap.size,2,none⟩=some (.slice A lx.length ca)) (exact keep3 p0 p1 p2 (by (repeat' (first|(with_reducible exact Below.refl _ _)|(with_reducible exact HB6.out)|(with_reducible refine Below.setCell ?_ ?_ _)|(with_reducible refine qc_ ?_)|(with_reducible refine qa_ ?_ _)|(with_reducible refine qb_ ?_ _)|(simp;done)|(simp;omega)|(have h6_:=HB6.out.size;simp;omega))))) (first
              | (go_at_call 98;refine (HI1.out _ _ _ _ (HTX.out.below (by repeat (first|(with_reducible exact Below.refl _ _)|(with_reducible refine qc_ ?_)|(with_reducible refine qa_ ?_ _)|(with_reducible refine qb_ ?_ _))))).mono ?_;rintro e w6 h6;obtain ⟨D7,N7,A7,c7,l7,ok7,rfl,ho7,hv7,hb⟩:=h6.val;have HB6:=Aside0.mk (show Below w1.heap.size w1 w6 from qh_ (by repeat (first|(with_reducible exact Below.refl _ _)|(with_reducible refine qc_ ?_)|(with_reducible refine qa_ ?_ _)|(with_reducible refine qb_ ?_ _))) hb);have HO7:=Aside0.mk ho7;have HV7:=Aside0.mk (show TermsR w6 w.heap.size (.slice A7 l7.length c7) l7 from Kd.qn2_ hv7 (Nat.le_trans (qh_ HB0.out HB1.out).size (qk_ (show Below w1.heap.size w1 _ from (by repeat (first|(with_reducible exact Below.refl _ _)|(with_reducible refine qc_ ?_)|(with_reducible refine qa_ ?_ _)|(with_reducible refine qb_ ?_ _)))))));first|(refine (fun (Z:w6.heap[w1.heap.size]?=some (.cells #[.int .i64 0,.int .i64 0,.slice none 0 0] 38 (0,0)))=>?_) (qm_ ?_ hb);rotate_left;(first|exact drew_at (new_at rfl)|exact new_at rfl);have HZZ:=Aside0.mk Z;have z0:=qg_ Z 0;have z1:=qg_ Z 1;have z2:=qg_ Z 2;have zf0:=qd_ Z 0;have zf1:=qd_ Z 1;have zf2:=qd_ Z 2;clear Z)|skip;clear h6 ho7 hv7 hb))
            all_goals
              go_wp2_with fail
              go_meet
              case rel =>
                refine ⟨_,D7,N7,A7,c7,l7,ok7,rfl,rfl,⟨?_⟩,⟨?_⟩,HO7,⟨?_⟩⟩
                · (repeat' (first|((with_reducible refine SrAt.new ?_);simp;done)|(with_reducible refine SrAt.put3 ?_ _ _ _)|(with_reducible exact HZZ.out)|(with_reducible refine SrAt.alloc ?_ _)|(with_reducible refine SrAt.drew ?_)|(with_reducible refine drewN_at ?_)|(with_reducible refine drew_at ?_)|((with_reducible refine new_at ?_);simp;done)|(with_reducible refine old_at ?_)))
                · (repeat' (first|(with_reducible exact HV7.out)|(with_reducible exact Kd.qq1_ HV7.out _)|(with_reducible refine Kd.qq1_ ?_ _)|(with_reducible refine Kd.R_drew ?_)|exact Kd.R_set (Kd.R_set (Kd.R_set HV7.out HZZ.out (by decide) 0 _) (qh1_ HZZ.out 0 _) (by decide) 1 _) (qh1_ (qh1_ HZZ.out 0 _) 1 _) (by decide) 2 _))
                · (repeat' (first|(with_reducible exact Below.refl _ _)|(with_reducible exact HB6.out)|(with_reducible refine Below.setCell ?_ ?_ _)|(with_reducible refine qc_ ?_)|(with_reducible refine qa_ ?_ _)|(with_reducible refine qb_ ?_ _)|(simp;done)|(simp;omega)|(have h6_:=HB6.out.size;simp;omega)))
          case rest =>
            obtain ⟨b7,D7,N7,A7,c7,l7,ok7,rfl,rfl,HS7,HV7,HO7,HM7⟩:=hcut
            have HB7:=Aside0.mk (qh_ HB1.out HM7.out)
            have HTY:=Aside0.mk (HTX.out.below HM7.out)
            have p0:=(HS0.out.below HB7.out).c0
            have p1:=(HS0.out.below HB7.out).c1
            have p2:=(HS0.out.below HB7.out).c2
            obtain ⟨w2,hw2⟩:∃ x,x=wc:=⟨_,rfl⟩
            rw [← hw2] at HS7 HV7 HM7 HB7 HTY p0 p1 p2 ⊢
            clear hw2
            go_wp2
            go_cut [9,10] (fun v9 v10 wx=>∃ (b9:Nat) (D N:Int) (Ax:Option Addr) (cx:Nat) (l9:List S79) (ok:Bool),v9=.pointer (some ⟨b9,0,none⟩)∧v10=.bool ok∧Aside0 (SrAt wx b9 D N (.slice Ax l9.length cx))∧Aside0 (TermsR wx w.heap.size (.slice Ax l9.length cx) l9)∧Aside0 (OutV d n (outT T2) D N l9 ok)∧Aside0 (Below w2.heap.size w2 wx))
            case first =>
              go_region_held3 (fun w'=>w'.cell? ⟨w.heap.size,0,none⟩=some (.int .i64 (d:Int))∧w'.cell? ⟨w.heap.size,1,none⟩=some (.int .i64 (n:Int))∧w'.cell? ⟨w.heap.size,2,none⟩=some (.slice A lx.length ca)) (exact keep3 p0 p1 p2 (by (repeat' (first|(with_reducible exact Below.refl _ _)|(with_reducible exact HB6.out)|(with_reducible refine Below.setCell ?_ ?_ _)|(with_reducible refine qc_ ?_)|(with_reducible refine qa_ ?_ _)|(with_reducible refine qb_ ?_ _)|(simp;done)|(simp;omega)|(have h6_:=HB6.out.size;simp;omega))))) (first
                | (go_at_call 98;refine (HI2.out _ _ _ _ (HTY.out.below (by repeat (first|(with_reducible exact Below.refl _ _)|(with_reducible refine qc_ ?_)|(with_reducible refine qa_ ?_ _)|(with_reducible refine qb_ ?_ _))))).mono ?_;rintro e w6 h6;obtain ⟨D9,N9,A9,c9,l9,ok9,rfl,ho9,hv9,hb⟩:=h6.val;have HB6:=Aside0.mk (show Below w2.heap.size w2 w6 from qh_ (by repeat (first|(with_reducible exact Below.refl _ _)|(with_reducible refine qc_ ?_)|(with_reducible refine qa_ ?_ _)|(with_reducible refine qb_ ?_ _))) hb);have HO9:=Aside0.mk ho9;have HV9:=Aside0.mk (show TermsR w6 w.heap.size (.slice A9 l9.length c9) l9 from Kd.qn2_ hv9 (Nat.le_trans (qh_ HB0.out HB7.out).size (qk_ (show Below w2.heap.size w2 _ from (by repeat (first|(with_reducible exact Below.refl _ _)|(with_reducible refine qc_ ?_)|(with_reducible refine qa_ ?_ _)|(with_reducible refine qb_ ?_ _)))))));first|(refine (fun (Z:w6.heap[w2.heap.size]?=some (.cells #[.int .i64 0,.int .i64 0,.slice none 0 0] 38 (0,0)))=>?_) (qm_ ?_ hb);rotate_left;(first|exact drew_at (new_at rfl)|exact new_at rfl);have HZZ:=Aside0.mk Z;have z0:=qg_ Z 0;have z1:=qg_ Z 1;have z2:=qg_ Z 2;have zf0:=qd_ Z 0;have zf1:=qd_ Z 1;have zf2:=qd_ Z 2;clear Z)|skip;clear h6 ho9 hv9 hb))
              all_goals
                go_wp2_with fail
                go_meet
                case rel =>
                  refine ⟨_,D9,N9,A9,c9,l9,ok9,rfl,rfl,⟨?_⟩,⟨?_⟩,HO9,⟨?_⟩⟩
                  · (repeat' (first|((with_reducible refine SrAt.new ?_);simp;done)|(with_reducible refine SrAt.put3 ?_ _ _ _)|(with_reducible exact HZZ.out)|(with_reducible refine SrAt.alloc ?_ _)|(with_reducible refine SrAt.drew ?_)|(with_reducible refine drewN_at ?_)|(with_reducible refine drew_at ?_)|((with_reducible refine new_at ?_);simp;done)|(with_reducible refine old_at ?_)))
                  · (repeat' (first|(with_reducible exact HV9.out)|(with_reducible exact Kd.qq1_ HV9.out _)|(with_reducible refine Kd.qq1_ ?_ _)|(with_reducible refine Kd.R_drew ?_)|exact Kd.R_set (Kd.R_set (Kd.R_set HV9.out HZZ.out (by decide) 0 _) (qh1_ HZZ.out 0 _) (by decide) 1 _) (qh1_ (qh1_ HZZ.out 0 _) 1 _) (by decide) 2 _))
                  · (repeat' (first|(with_reducible exact Below.refl _ _)|(with_reducible exact HB6.out)|(with_reducible refine Below.setCell ?_ ?_ _)|(with_reducible refine qc_ ?_)|(with_reducible refine qa_ ?_ _)|(with_reducible refine qb_ ?_ _)|(simp;done)|(simp;omega)|(have h6_:=HB6.out.size;simp;omega)))
            case rest =>
              obtain ⟨b9,D9,N9,A9,c9,l9,ok9,rfl,rfl,HS9,HV9,HO9,HM9⟩:=hcut
              have HB9:=Aside0.mk (qh_ HB7.out HM9.out)
              have HBW:=Aside0.mk (qh_ HB0.out HB9.out)
              clear p0 p1 p2
              by_cases hb1:T1.bad=true
              · have ho:=HO7.out
                rw [outT_bad hb1] at ho
                obtain ⟨rfl,rfl,rfl,rfl⟩:=ho
                have HRN:=Aside0.mk (HR1.out hb1)
                clear hb1
                have SR:=HSR.out.below HB9.out
                have x0:wc.cell? ⟨w.heap.size+1,0,none⟩=some (.int .i64 0):=SR.c0
                have f0:wc.frozen? ⟨w.heap.size+1,0,none⟩=false:=qd_ SR 0
                have x1:wc.cell? ⟨w.heap.size+1,1,none⟩=some (.int .i64 0):=SR.c1
                have f1:wc.frozen? ⟨w.heap.size+1,1,none⟩=false:=qd_ SR 1
                have x2:wc.cell? ⟨w.heap.size+1,2,none⟩=some (.slice none 0 0):=SR.c2
                have f2:wc.frozen? ⟨w.heap.size+1,2,none⟩=false:=qd_ SR 2
                have HSRX:=Aside0.mk SR
                clear SR
                go_wp2
                refine bodyPost_ret (results_ct rfl _ _ (w.heap.size+1) 38 _ (0,0) _ rfl (qh1_ (qh1_ (qh1_ HSRX.out 0 _) 1 _) 2 _) hu2 rfl (by kernel_rfl)) rfl ?_
                rw [HRN.out]
                exact ⟨_,rfl,Kd.R_nil _ _ _ _ _,((HBW.out.setCell (Nat.le_add_right _ 1) _).setCell (Nat.le_add_right _ 1) _).setCell (Nat.le_add_right _ 1) _⟩
              · have hg1:T1.bad=false:=by simpa using hb1
                have ho:=HO7.out
                rw [outT_good hg1] at ho
                obtain ⟨rfl,rfl,rfl,rfl⟩:=ho
                by_cases hb2:T2.bad=true
                · have ho:=HO9.out
                  rw [outT_bad hb2] at ho
                  obtain ⟨rfl,rfl,rfl,rfl⟩:=ho
                  have HRN:=Aside0.mk (HR2.out hb2)
                  clear hb1 hb2 hg1
                  have SR:=HSR.out.below HB9.out
                  have x0:wc.cell? ⟨w.heap.size+1,0,none⟩=some (.int .i64 0):=SR.c0
                  have f0:wc.frozen? ⟨w.heap.size+1,0,none⟩=false:=qd_ SR 0
                  have x1:wc.cell? ⟨w.heap.size+1,1,none⟩=some (.int .i64 0):=SR.c1
                  have f1:wc.frozen? ⟨w.heap.size+1,1,none⟩=false:=qd_ SR 1
                  have x2:wc.cell? ⟨w.heap.size+1,2,none⟩=some (.slice none 0 0):=SR.c2
                  have f2:wc.frozen? ⟨w.heap.size+1,2,none⟩=false:=qd_ SR 2
                  have HSRX:=Aside0.mk SR
                  clear SR
                  go_wp2
                  refine bodyPost_ret (results_ct rfl _ _ (w.heap.size+1) 38 _ (0,0) _ rfl (qh1_ (qh1_ (qh1_ HSRX.out 0 _) 1 _) 2 _) hu2 rfl (by kernel_rfl)) rfl ?_
                  rw [HRN.out]
                  exact ⟨_,rfl,Kd.R_nil _ _ _ _ _,((HBW.out.setCell (Nat.le_add_right _ 1) _).setCell (Nat.le_add_right _ 1) _).setCell (Nat.le_add_right _ 1) _⟩
                · have hg2:T2.bad=false:=by simpa using hb2
                  have ho:=HO9.out
                  rw [outT_good hg2] at ho
                  obtain ⟨rfl,rfl,rfl,rfl⟩:=ho
                  have HC1:=Aside0.mk (show TmsC wc A7 c7 (termsT T1) from (TmsC.of (Kd.qi2_ HV7.out HM9.out) (by have:=terms_len HK1.out HS.out;omega)).1)
                  have HC2:=Aside0.mk (show TmsC wc A9 c9 (termsT T2) from (TmsC.of HV9.out (by have:=terms_len HK2.out HS.out;omega)).1)
                  have HCM:=Aside0.mk (show ∀ W,TmsC W A7 c7 (termsT T1)→TmsC W A9 c9 (termsT T2)→Calls Try.prog 109 #[.agg #[.int .i64 (d:Int),.int .i64 (n:Int),.slice A7 (termsT T1).length c7],.agg #[.int .i64 (d:Int),.int .i64 (n:Int),.slice A9 (termsT T2).length c9]] W (OutR W d n R) from fun W h1 h2=>by rw [HR3.out];exact commS W d n HS.out HK1.out HK2.out hg1 hg2 h1 h2)
                  have S7:=HS7.out.below HM9.out
                  have k0:=S7.c0
                  have k1:=S7.c1
                  have k2:=S7.c2
                  have y0:=HS9.out.c0
                  have y1:=HS9.out.c1
                  have y2:=HS9.out.c2
                  have HSRB:=Aside0.mk (HSR.out.below HB9.out)
                  clear hb1 hb2 hg1 hg2 S7
                  go_wp2_with (go_at_call 109;refine (HCM.out _ HC1.out HC2.out).mono ?_;rintro e w8 h8;obtain ⟨D,N,Ax,cx,lr,ok,rfl,ho,hv,hb⟩:=h8.val;have HOX:=Aside0.mk ho;have HVX:=Aside0.mk (show TermsR w8 w.heap.size (.slice Ax lr.length cx) lr from Kd.qn2_ hv HBW.out.size);have HBX:=Aside0.mk (qh_ HBW.out hb);have SR:=HSRB.out.below hb;have x0:(w8.alloc (.cells #[.int .i64 D,.int .i64 N,.slice Ax lr.length cx] 38)).cell? ⟨w.heap.size+1,0,none⟩=some (.int .i64 0):=(SrAt.alloc SR _).c0;have f0:(w8.alloc (.cells #[.int .i64 D,.int .i64 N,.slice Ax lr.length cx] 38)).frozen? ⟨w.heap.size+1,0,none⟩=false:=qd_ (SrAt.alloc SR (.cells #[.int .i64 D,.int .i64 N,.slice Ax lr.length cx] 38)) 0;have x1:(w8.alloc (.cells #[.int .i64 D,.int .i64 N,.slice Ax lr.length cx] 38)).cell? ⟨w.heap.size+1,1,none⟩=some (.int .i64 0):=(SrAt.alloc SR _).c1;have f1:(w8.alloc (.cells #[.int .i64 D,.int .i64 N,.slice Ax lr.length cx] 38)).frozen? ⟨w.heap.size+1,1,none⟩=false:=qd_ (SrAt.alloc SR (.cells #[.int .i64 D,.int .i64 N,.slice Ax lr.length cx] 38)) 1;have x2:(w8.alloc (.cells #[.int .i64 D,.int .i64 N,.slice Ax lr.length cx] 38)).cell? ⟨w.heap.size+1,2,none⟩=some (.slice none 0 0):=(SrAt.alloc SR _).c2;have f2:(w8.alloc (.cells #[.int .i64 D,.int .i64 N,.slice Ax lr.length cx] 38)).frozen? ⟨w.heap.size+1,2,none⟩=false:=qd_ (SrAt.alloc SR (.cells #[.int .i64 D,.int .i64 N,.slice Ax lr.length cx] 38)) 2;have HSRX:=Aside0.mk SR;clear SR h8 ho hv hb)
                  refine bodyPost_ret (results_ct rfl _ _ (w.heap.size+1) 38 _ (0,0) _ rfl (qh1_ (qh1_ (qh1_ (HSRX.out.alloc _) 0 _) 1 _) 2 _) hu2 rfl (by kernel_rfl)) rfl ?_
                  refine OutR.of HOX.out ?_ (((qb_ HBX.out _).setCell (Nat.le_add_right _ 1) _).setCell (Nat.le_add_right _ 1) _ |>.setCell (Nat.le_add_right _ 1) _)
                  exact Kd.R_set (Kd.R_set (Kd.R_set (Kd.qq1_ HVX.out _) (HSRX.out.alloc _) (by decide) 0 _) (qh1_ (HSRX.out.alloc _) 0 _) (by decide) 1 _) (qh1_ (qh1_ (HSRX.out.alloc _) 0 _) 1 _) (by decide) 2 _
theorem brackSp' (w:World) (d n:Nat) (hs:Sz d n) (l:List Nat) (hl:isD d n l) (h1:1≤l.length) {A:Option Addr} {ca:Nat} {lx:List S79} (hA:TmsC w A ca lx) :
    Calls Try.prog 98 #[.agg #[.int .i64 (d:Int),.int .i64 (n:Int),.slice A lx.length ca],.string (encW l)] w (OutR w d n (outT (bracketT d n l))) :=
  brackSp d n hs 8 l w A ca lx hl h1 (by have:=hl.1;have:=hs.n8;omega) hA
end Go.Proofs.Ytaiefdhenikiiaa.Base
