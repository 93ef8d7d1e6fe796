/- What functions answer. No condition. -/
import Derived.Test.YtaiefdhenikiiaaMFnExactWithoutEnd10
import Derived.Deep.RegionLaw
namespace Go.Proofs.Ytaiefdhenikiiaa.Base
open Go.RowKit Go.Proofs.YtaiefdhenikiiaaW.PrintWords Go.Proofs.YtaiefdhenikiiaaW.PrintLast Go.Proofs.YtaiefdhenikiiaaW.PrintMore
set_option linter.unusedVariables false
set_option linter.unusedSimpArgs false
def SrAt (W:World) (b:Nat) (d n:Int) (v:Value):Prop:=W.heap[b]?=some (.cells #[.int .i64 d,.int .i64 n,v] 38 (0,0))
section
variable {W W' w w':World} {b:Nat} {d n:Int} {v:Value}
theorem SrAt.c0 (H:SrAt W b d n v):W.cell? ⟨b,0,none⟩=some (.int .i64 d):=qi_ H 0
theorem SrAt.c1 (H:SrAt W b d n v):W.cell? ⟨b,1,none⟩=some (.int .i64 n):=qi_ H 1
theorem SrAt.c2 (H:SrAt W b d n v):W.cell? ⟨b,2,none⟩=some v:=qi_ H 2
theorem SrAt.lt (H:SrAt W b d n v):b<W.heap.size:=blk_lt H
theorem SrAt.below (H:SrAt W b d n v) (hb:Below W.heap.size W W'):SrAt W' b d n v:=ql_ H hb
theorem SrAt.alloc (H:SrAt W b d n v) (o:Obj):SrAt (W.alloc o) b d n v:=old_at H
theorem SrAt.drew (H:SrAt W b d n v):SrAt W.drew b d n v:=H
theorem SrAt.drewN (H:SrAt W b d n v) (m:Nat):SrAt (W.drewN m) b d n v:=H
theorem SrAt.far (H:SrAt W b d n v) {p:Addr} (h:b≠p.block) (u:Value):SrAt (W.setCell p u) b d n v:=qa1_ H h u
theorem SrAt.put (H:SrAt W b d n v) (u:Value):SrAt (W.setCell ⟨b,2,none⟩ u) b d n u:=qj2_ H 2 u
theorem SrAt.grown (H:SrAt W b d n v) {row:Option Nat} (hg:W.grownBy W' row) (hne:some b≠row):SrAt W' b d n v:=qc3_ H hg hne
end
def termStep (t:Tb) (acc:List S79) (i:Nat):List S79:=if (t.vs.getD i zeroF).f0≠0 then acc++[⟨(wordsA t.d t.n).getD i ByteArray.empty,t.vs.getD i zeroF⟩] else acc
def termsN (t:Tb) (n:Nat):List S79:=(List.range n).foldl (termStep t) []
def termsT (t:Tb):List S79:=termsN t (wordsD t.d t.n).length
theorem termsN_succ (t:Tb) (n:Nat):termsN t (n+1)=termStep t (termsN t n) n:=by unfold termsN;rw [List.range_succ,List.foldl_append];rfl
theorem termsN_len (t:Tb) (n:Nat):(termsN t n).length≤n:=by
  induction n with
  | zero=>exact Nat.le_refl _
  | succ n ih =>
    rw [termsN_succ]
    unfold termStep
    split
    · rw [List.length_append,List.length_singleton];omega
    · omega
abbrev TermsR (W:World) (base:Nat) (v:Value) (l:List S79):Prop:=Kd.R k79 79 W base (fun _=>True) v l
theorem WordsAt.grown {w w':World} {B c:Nat} {A:Option Addr} {ws:List ByteArray} (h:WordsAt w B A c ws) {base:Nat} {v:Value} {l:List S79} (hr:TermsR w base v l) (hg:w.grownBy w' v.ownBlock):WordsAt w' B A c ws :=
  Kd.R_over' h (Kd.R_typed hr) (by decide) hg
theorem info79':(Try.prog.info? 79).map (fun i=>(i.zero,i.size,i.bytes))=some (some (.agg #[(.string ⟨#[]⟩),(.int .i64 0),(.int .i64 0)]),3,32):=by kernel_rfl
set_option maxHeartbeats 16000000 in
set_option maxRecDepth 100000 in
theorem series_ (w:World) {g h:Nat} {t:Tb} (H:TabAt w g h t) (ht:t.Ok) :
    Calls Try.prog 164 #[.pointer (some ⟨g,0,none⟩)] w fun e w'=>∃ v:Value,e=.returned (.agg #[.int .i64 (t.d:Int),.int .i64 (t.n:Int),v])∧TermsR w' w.heap.size v (termsT t)∧Below w.heap.size w w':=by
  have hu:=Try.underlying38
  have hu2:=Try.underlying79
  have hu3:=Try.underlying77
  have h0:=H.c0
  have h1:=H.c1
  have n0:=World.new_ne w _ h0
  have n2:=H.ltg
  have HT:=Aside0.mk H
  have OT:=Aside0.mk ht
  have n1:w.heap.size+1≠g:=by omega
  have hsm:(wordsD t.d t.n).length≤19683:=wordsD_small _ _ ht.sz.d3 ht.sz.n8
  have HSM:=Aside0.mk hsm
  clear H ht hsm
  go_enter Try.func164,Try.ntmps164
  go_wp2
  go_region_held3 (fun w'=>w'.cell? ⟨g,0,none⟩=some (.int .i64 (t.d:Int))∧w'.cell? ⟨g,1,none⟩=some (.int .i64 (t.n:Int))) (go_keep) (fail)
  go_wp2
  go_region_held3 (fun w'=>w'.cell? ⟨g,0,none⟩=some (.int .i64 (t.d:Int))∧w'.cell? ⟨g,1,none⟩=some (.int .i64 (t.n:Int))) (go_keep) (first
    | (go_at_call 175;refine (allWords_ _ t.d t.n OT.out.sz).mono ?_;rintro e w3 ⟨A,c,rfl,W,hb⟩;have T3:TabAt w3 g h t:=TabAt.below (by repeat (first|(with_reducible exact HT.out)|(with_reducible refine TabAt.drewN ?_ _)|(with_reducible refine TabAt.drew ?_)|(with_reducible refine TabAt.alloc ?_ _))) hb;have HW:=Aside0.mk W;have HS2:=Aside0.mk (show SrAt w3 w.heap.size 0 0 (.slice none 0 0) from ql_ (by repeat' (first|(with_reducible refine drewN_at ?_)|(with_reducible refine drew_at ?_)|((with_reducible refine new_at ?_);simp;done)|(with_reducible refine old_at ?_)|((with_reducible refine qa1_ ?_ ?_ _);rotate_left;(focus (first|(simp;done)|(simp;omega)))))) hb);have HS3:=Aside0.mk (show SrAt w3 (w.heap.size+1) t.d t.n (.slice none 0 0) from ql_ (by repeat' (first|(with_reducible refine drewN_at ?_)|(with_reducible refine drew_at ?_)|((with_reducible refine new_at ?_);simp;done)|(with_reducible refine old_at ?_)|((with_reducible refine qa1_ ?_ ?_ _);rotate_left;(focus (first|(simp;done)|(simp;omega)))))) hb);have HB:=Aside0.mk (show Below w.heap.size w w3 from qm_ (by repeat (first|(with_reducible exact Below.refl _ _)|(with_reducible refine qc_ ?_)|(with_reducible refine qa_ ?_ _)|(with_reducible refine qb_ ?_ _))) hb);have z0:=T3.c0;have z1:=T3.c1;clear T3 W hb))
  go_wp2
  clear h0 h1 z0 z1 n0 n1 n2
  have HWL:=Aside0.mk (wordsA_len t.d t.n)
  go_loopg [25] (wordsD t.d t.n).length (fun gg v25 wr=>∃ (i:Nat) (v:Value),i≤(wordsD t.d t.n).length∧(wordsD t.d t.n).length - i≤gg∧v25=.int .i64 i∧Aside0 (Below w.heap.size w wr)∧Aside0 (SrAt wr w.heap.size 0 0 (.slice none 0 0))∧Aside0 (SrAt wr (w.heap.size+1) t.d t.n v)∧Aside0 (TermsR wr w.heap.size v (termsN t i))∧Aside0 (∃ B,WordsAt wr B A c (wordsA t.d t.n)))
  case atStart=>exact ⟨0,_,Nat.zero_le _,by omega,rfl,HB,HS2,HS3,⟨Kd.R_nil _ _ _ _ _⟩,⟨_,HW.out⟩⟩
  case round =>
    clear HB HS2 HS3 HW
    obtain ⟨i,v,hi,hg,rfl,HB,HS2,HS3,HR,HW⟩:=hrel
    by_cases hlt:i<(wordsD t.d t.n).length
    · have hltz:(i:Int)<((wordsD t.d t.n).length:Int):=by omega
      obtain ⟨B,HWb⟩:=HW.out
      obtain ⟨ad,rfl,hx⟩:=HWb.at i (by have:=HWL.out;omega)
      obtain ⟨wd,hwd⟩:∃ x,x=(wordsA t.d t.n)[i]'(by have:=HWL.out;omega):=⟨_,rfl⟩
      rw [← hwd] at hx
      have HWD:=Aside0.mk hwd
      have HWB:=Aside0.mk HWb
      have hvl:i<t.vs.length:=by rw [OT.out.len];exact hlt
      have hvz:(i:Int)<(t.vs.length:Int):=by omega
      have T:=HT.out.below HB.out
      have t2:=T.c2
      have t3:=T.v0 i hvl
      have t4:=T.v1 i hvl
      have s2:=HS3.out.c2
      have e1:t.vs.getD i zeroF=t.vs[i]:=by rw [List.getD_eq_getElem?_getD,List.getElem?_eq_getElem hvl,Option.getD_some]
      have e2:(wordsA t.d t.n).getD i ByteArray.empty=wd:=by rw [hwd,List.getD_eq_getElem?_getD,List.getElem?_eq_getElem (by have:=HWL.out;omega),Option.getD_some]
      have E1:=Aside0.mk e1
      have E2:=Aside0.mk e2
      clear hwd HWb T e1 e2
      by_cases ca:t.vs[i].f0=0
      · go_wp2
        go_roundg ((wordsD t.d t.n).length - (i+1))
        case measure=>omega
        case rel =>
          refine ⟨i+1,v,by omega,by omega,by have:=HSM.out;first|rfl|(rw [w64 (by omega) (by omega)];rfl),HB,HS2,HS3,⟨?_⟩,HW⟩
          rw [termsN_succ]
          unfold termStep
          rw [E1.out,if_neg (fun hh=>hh ca)]
          exact HR.out
      · have ca2:(t.vs[i].f0 != 0)=true:=by simpa using ca
        go_wp2
        have l3:w.heap.size+1<wr.heap.size:=HS3.out.lt
        have s3:(wr.alloc (.cells #[.string wd,.int .i64 t.vs[i].f0,.int .i64 t.vs[i].f1] 79)).cell? ⟨w.heap.size+1,2,none⟩=some v:=(HS3.out.alloc _).c2
        refine wp_region_noPanic ?_
        go_region_law ((refine Kd.R_append_step k79 w.heap.size rfl (.tmp 40) (.tmp 50) 24 79 (.agg #[(.string ⟨#[]⟩),(.int .i64 0),(.int .i64 0)]) 32 rfl Try.underlying24 info79' rfl (by decide) (by omega) v (termsN t i) ⟨wd,t.vs[i]⟩ [.string wd,.int .i64 t.vs[i].f0,.int .i64 t.vs[i].f1] (fun _=>True) (fun k=>some k≠v.ownBlock) rfl rfl (k79_mkM _ _ _ ⟨wd,t.vs[i]⟩) (fun _ h=>⟨trivial,h⟩) (fun _ _=>trivial) (Kd.R_drew HR.out) (qc_ HB.out) HB.out.size (by have:=termsN_len t i;have:=HSM.out;omega) ?_;intro v1 w1 ho hb hg hat;have S3:SrAt w1 (w.heap.size+1) t.d t.n v:=HS3.out.drew.grown hg (Kd.R_ne (Kd.R_drew HR.out) HS3.out.drew (by decide));have S2:SrAt w1 w.heap.size 0 0 (.slice none 0 0):=HS2.out.drew.grown hg (Kd.R_ne (Kd.R_drew HR.out) HS2.out.drew (by decide));obtain ⟨A1,c1,rfl⟩:=Kd.qq2_ ho;have HR1:=Aside0.mk ho;have HB1:=Aside0.mk hb;have HW1:=Aside0.mk (show ∃ B,WordsAt w1 B (some ad) c (wordsA t.d t.n) from ⟨B,WordsAt.grown (Kd.R_drew HWB.out) (Kd.R_drew HR.out) hg⟩);have u0:=S3.c2;have u1:=qh_ S3 2;have d9:=Aside0.mk S3;have HS21:=Aside0.mk S2;clear S3 S2 ho hb hg hat))
        all_goals
          refine NoPanic.normal ?_
          go_wp2
          go_roundg ((wordsD t.d t.n).length - (i+1))
          case measure=>omega
          case rel =>
            refine ⟨i+1,_,by omega,by omega,by have:=HSM.out;first|rfl|(rw [w64 (by omega) (by omega)];rfl),⟨HB1.out.setCell (by simp) _⟩,⟨HS21.out.far (by simp) _⟩,⟨d9.out.put _⟩,⟨?_⟩,?_⟩
            · rw [termsN_succ]
              unfold termStep
              rw [E1.out,E2.out,if_pos ca]
              have hh:=HR1.out
              rw [List.length_append,List.length_singleton] at hh
              exact Kd.R_set hh d9.out (by decide) 2 _
            · obtain ⟨B,hB⟩:=HW1.out
              exact ⟨⟨B,Kd.R_set hB d9.out (by decide) 2 _⟩⟩
    · have hltz:¬ (i:Int)<((wordsD t.d t.n).length:Int):=by omega
      obtain rfl:i=(wordsD t.d t.n).length:=by omega
      obtain ⟨Av,cv,rfl⟩:=Kd.qq2_ HR.out
      have y0:=HS3.out.c0
      have y1:=HS3.out.c1
      have y2:=HS3.out.c2
      have x0:=HS2.out.c0
      have x1:=HS2.out.c1
      have x2:=HS2.out.c2
      have f0:=qh_ HS2.out 0
      have f1:=qh_ HS2.out 1
      have f2:=qh_ HS2.out 2
      go_wp2
      refine bodyPost_ret (results_cell_row rfl _ _ _ _ _ _ _ rfl (qj2_ (qj2_ (qj2_ HS2.out 0 _) 1 _) 2 _) hu rfl (by kernel_rfl)) rfl ?_
      refine ⟨_,rfl,?_,?_⟩
      · exact Kd.R_set (Kd.R_set (Kd.R_set HR.out HS2.out (by decide) 0 _) (qj2_ HS2.out 0 _) (by decide) 1 _) (qj2_ (qj2_ HS2.out 0 _) 1 _) (by decide) 2 _
      · exact ((HB.out.setCell (Nat.le_refl _) _).setCell (Nat.le_refl _) _).setCell (Nat.le_refl _) _
end Go.Proofs.Ytaiefdhenikiiaa.Base
namespace Go.Proofs.Ytaiefdhenikiiaa.Base
open Go.RowKit Go.Proofs.YtaiefdhenikiiaaW.PrintWords Go.Proofs.YtaiefdhenikiiaaW.PrintLast Go.Proofs.YtaiefdhenikiiaaW.PrintMore
set_option linter.unusedVariables false
set_option linter.unusedSimpArgs false
def SerRes (w:World) (d n:Int) (l:List S79) (code:Int) (e:Ending) (w':World):Prop:=∃ v:Value,e=.returned (.tuple #[.agg #[.int .i64 d,.int .i64 n,v],.int .i64 code])∧TermsR w' w.heap.size v l∧Below w.heap.size w w'
def toldT (t:Tb) (w:World):Ending→World→Prop:=if t.bad=true then SerRes w 0 0 [] 3 else SerRes w t.d t.n (termsT t) 0
set_option maxHeartbeats 16000000 in
set_option maxRecDepth 100000 in
theorem told_ (w:World) {g h:Nat} {t:Tb} (H:TabAt w g h t) (ht:t.Ok):Calls Try.prog 96 #[.pointer (some ⟨g,0,none⟩)] w (toldT t w):=by
  have hu:=Try.underlying38
  have h3:=H.c3
  have hl:=H.ltg
  have HT:=Aside0.mk H
  have OT:=Aside0.mk ht
  clear H ht
  unfold toldT
  cases hb:t.bad with
  | true =>
    rw [if_pos rfl]
    rw [hb] at h3
    go_enter Try.func96,Try.ntmps96
    go_wp2
    refine bodyPost_ret (results_ct rfl _ _ w.heap.size 38 #[.int .i64 0,.int .i64 0,.slice none 0 0] (0,0) _ rfl (new_at rfl) hu rfl (by kernel_rfl)) rfl ?_
    exact ⟨_,rfl,Kd.R_nil _ _ _ _ _,qb_ (Below.refl _ _) _⟩
  | false =>
    rw [if_neg (by simp)]
    rw [hb] at h3
    go_enter Try.func96,Try.ntmps96
    go_wp2_with (go_at_call 164;refine (series_ _ (HT.out.alloc _) OT.out).mono ?_;rintro e w1 ⟨v,rfl,hv,hbl⟩;obtain ⟨A1,c1,rfl⟩:=Kd.qq2_ hv;have HV:=Aside0.mk hv;have HB:=Aside0.mk (show Below w.heap.size w w1 from qm_ (qb_ (Below.refl _ _) _) hbl);have S:=ql_ (new_at (W:=w) (cs:=#[.int .i64 0,.int .i64 0,.slice none 0 0]) (e:=38) rfl) hbl;have x0:w1.cell? ⟨w.heap.size,0,none⟩=some (.int .i64 0):=qi_ S 0;have x1:w1.cell? ⟨w.heap.size,1,none⟩=some (.int .i64 0):=qi_ S 1;have x2:w1.cell? ⟨w.heap.size,2,none⟩=some (.slice none 0 0):=qi_ S 2;have f0:=qh_ S 0;have f1:=qh_ S 1;have f2:=qh_ S 2;have HS:=Aside0.mk S;clear S hv hbl)
    refine bodyPost_ret (results_ct rfl _ _ w.heap.size 38 _ (0,0) _ rfl (qj2_ (qj2_ (qj2_ HS.out 0 _) 1 _) 2 _) hu rfl (by kernel_rfl)) rfl ?_
    refine ⟨_,rfl,?_,?_⟩
    · refine Kd.qt2_ (Kd.R_set (Kd.R_set (Kd.R_set HV.out HS.out (by decide) 0 _) (qj2_ HS.out 0 _) (by decide) 1 _) (qj2_ (qj2_ HS.out 0 _) 1 _) (by decide) 2 _) ?_
      simp
    · exact ((HB.out.setCell (Nat.le_refl _) _).setCell (Nat.le_refl _) _).setCell (Nat.le_refl _) _
end Go.Proofs.Ytaiefdhenikiiaa.Base
namespace Go.Proofs.Ytaiefdhenikiiaa.Base
open Go.RowKit Go.Proofs.YtaiefdhenikiiaaW.PrintWords Go.Proofs.YtaiefdhenikiiaaW.PrintLast Go.Proofs.YtaiefdhenikiiaaW.PrintMore
set_option linter.unusedVariables false
set_option linter.unusedSimpArgs false
def decW (s:ByteArray):List Nat:=s.data.toList.map fun b=>b.toNat - 48
theorem decW_encW (l:List Nat) (h:∀ x ∈ l,x<100):decW (encW l)=l:=by
  unfold decW encW
  rw [List.map_map]
  conv=>rhs;rw [← List.map_id l]
  apply List.map_congr_left
  intro x hx
  have:=h x hx
  simp only [Function.comp,UInt8.toNat_ofNat',id_eq]
  omega
def isWd (d n:Nat) (s:ByteArray):Prop:=encW (decW s)=s∧isD d n (decW s)
def okTs (d n:Nat) (l:List S79):Prop:=∀ x ∈ l,isWd d n x.f0∧okF x.f1
def TmAt (W:World) (b:Nat) (x:S79):Prop:=W.heap[b]?=some (.cells #[.string x.f0,.int .i64 x.f1.f0,.int .i64 x.f1.f1] 79 (0,0))
section
variable {W W':World} {b:Nat} {x:S79}
theorem TmAt.c0 (H:TmAt W b x):W.cell? ⟨b,0,none⟩=some (.string x.f0):=qi_ H 0
theorem TmAt.c1 (H:TmAt W b x):W.cell? ⟨b,1,none⟩=some (.int .i64 x.f1.f0):=qi_ H 1
theorem TmAt.c2 (H:TmAt W b x):W.cell? ⟨b,2,none⟩=some (.int .i64 x.f1.f1):=qi_ H 2
end
end Go.Proofs.Ytaiefdhenikiiaa.Base
namespace Go.Proofs.Ytaiefdhenikiiaa.Base
open Go.RowKit Go.Proofs.YtaiefdhenikiiaaW.PrintWords Go.Proofs.YtaiefdhenikiiaaW.PrintLast Go.Proofs.YtaiefdhenikiiaaW.PrintMore
set_option linter.unusedVariables false
set_option linter.unusedSimpArgs false
def withStep (cut:ByteArray→ByteArray × Bool) (o:Tb) (x:S79):Tb:=if (cut x.f0).2=true then o.addW (decW (cut x.f0).1) x.f1 else o
def withT (cut:ByteArray→ByteArray × Bool) (d n:Nat) (l:List S79):Tb:=l.foldl (withStep cut) (zeroT d n)
theorem withT_like {cut:ByteArray→ByteArray × Bool} {d n:Nat} (hs:Sz d n) (l:List S79):Like (withT cut d n l) (zeroT d n):=by
  have key:∀ (l:List S79) (o:Tb),Like o (zeroT d n)→Like (l.foldl (withStep cut) o) (zeroT d n):=by
    intro l
    induction l with
    | nil=>intro o ho;exact ho
    | cons x l ih =>
      intro o ho
      refine ih _ ?_
      unfold withStep
      split
      · exact ⟨ho.1,ho.2.1,ho.2.2.addW _ _⟩
      · exact ho
  exact key l _ ⟨rfl,rfl,zeroT_ok hs⟩
def IsBy (D N:Int) (A:Option Addr) (c:Nat) (l:List S79) (b:Bool):Prop :=
  ∀ W:World,Kd.C k79 W A l.length l→Calls Try.prog 83 #[.agg #[.int .i64 D,.int .i64 N,.slice A l.length c]] W fun e w'=>e=.returned (.bool b)∧Below W.heap.size W w'
def CutsBy (g B:Nat) (u:ByteArray) (cut:ByteArray→ByteArray × Bool):Prop :=
  ∀ (W:World) (s:ByteArray),s.size≤1048576→W.cell? ⟨B,0,none⟩=some (.string u)→Calls Try.prog g #[.string s,.pointer (some ⟨B,0,none⟩)] W fun e w'=>e=.returned (.tuple #[.string (cut s).1,.bool (cut s).2])∧Below W.heap.size W w'
set_option maxHeartbeats 16000000 in
set_option maxRecDepth 100000 in
theorem without_1 (w:World) (D N:Int) (A:Option Addr) (c:Nat) (l:List S79) (u:ByteArray) (g B:Nat) (hr:Kd.C k79 w A l.length l) (hk:IsBy D N A c l false) :
    Calls Try.prog 87 #[.agg #[.int .i64 D,.int .i64 N,.slice A l.length c],.string u,.func (.func g) #[] #[.pointer (some ⟨B,0,none⟩)]] w (SerRes w 0 0 [] 1):=by
  have hu:=Try.underlying38
  have HK:=Aside0.mk hk
  have HR:=Aside0.mk hr
  clear hr hk
  go_enter Try.func87,Try.ntmps87
  go_wp2_with (go_at_call 83;refine (HK.out _ (Kd.qn2_ HR.out (qb_ (qb_ (Below.refl _ _) _) _))).mono ?_;rintro e w1 ⟨rfl,hd⟩;have HB:=Aside0.mk (show Below w.heap.size w w1 from qm_ (qb_ (qb_ (Below.refl _ _) _) _) hd);have S:w1.heap[w.heap.size+1]?=some (.cells #[.int .i64 0,.int .i64 0,.slice none 0 0] 38 (0,0)):=ql_ (new_at (by simp)) hd;have X:w1.heap[w.heap.size]?=some (.cells #[.int .i64 D,.int .i64 N,.slice A l.length c] 38 (0,0)):=ql_ (old_at (new_at rfl)) hd;have x0:w1.cell? ⟨w.heap.size+1,0,none⟩=some (.int .i64 0):=qi_ S 0;have x1:w1.cell? ⟨w.heap.size+1,1,none⟩=some (.int .i64 0):=qi_ S 1;have x2:w1.cell? ⟨w.heap.size+1,2,none⟩=some (.slice none 0 0):=qi_ S 2;have f0:=qh_ S 0;have f1:=qh_ S 1;have f2:=qh_ S 2;have y0:w1.cell? ⟨w.heap.size,0,none⟩=some (.int .i64 D):=qi_ X 0;have y1:w1.cell? ⟨w.heap.size,1,none⟩=some (.int .i64 N):=qi_ X 1;have y2:w1.cell? ⟨w.heap.size,2,none⟩=some (.slice A l.length c):=qi_ X 2;have HS:=Aside0.mk S;have HX:=Aside0.mk X;clear S X hd)
  refine bodyPost_ret (results_ct rfl _ _ (w.heap.size+1) 38 _ (0,0) _ rfl (qj2_ (qj2_ (qj2_ HS.out 0 _) 1 _) 2 _) hu rfl (by kernel_rfl)) rfl ?_
  exact ⟨_,rfl,Kd.R_nil _ _ _ _ _,((HB.out.setCell (by simp) _).setCell (by simp) _).setCell (by simp) _⟩
set_option maxHeartbeats 16000000 in
set_option maxRecDepth 100000 in
theorem without_2 (w:World) (d n:Nat) (A:Option Addr) (c:Nat) (l:List S79) (u:ByteArray) (g B:Nat) (hr:Kd.C k79 w A l.length l) (hk:IsBy d n A c l true) (k2:Nat) (hk2:qq1_.f k2 (d:Int) u (n:Int)=some false) :
    Calls Try.prog 87 #[.agg #[.int .i64 (d:Int),.int .i64 (n:Int),.slice A l.length c],.string u,.func (.func g) #[] #[.pointer (some ⟨B,0,none⟩)]] w (SerRes w 0 0 [] 2):=by
  have hu:=Try.underlying38
  have HK:=Aside0.mk hk
  have HK2:=Aside0.mk hk2
  have HR:=Aside0.mk hr
  clear hr hk hk2
  go_enter Try.func87,Try.ntmps87
  go_wp2_with (first
    | (go_at_call 83;refine (HK.out _ (Kd.qn2_ HR.out (qb_ (qb_ (Below.refl _ _) _) _))).mono ?_;rintro e w1 ⟨rfl,hd⟩;have HB:=Aside0.mk (show Below w.heap.size w w1 from qm_ (qb_ (qb_ (Below.refl _ _) _) _) hd);have S:w1.heap[w.heap.size+1]?=some (.cells #[.int .i64 0,.int .i64 0,.slice none 0 0] 38 (0,0)):=ql_ (new_at (by simp)) hd;have X:w1.heap[w.heap.size]?=some (.cells #[.int .i64 (d:Int),.int .i64 (n:Int),.slice A l.length c] 38 (0,0)):=ql_ (old_at (new_at rfl)) hd;have x0:w1.cell? ⟨w.heap.size+1,0,none⟩=some (.int .i64 0):=qi_ S 0;have x1:w1.cell? ⟨w.heap.size+1,1,none⟩=some (.int .i64 0):=qi_ S 1;have x2:w1.cell? ⟨w.heap.size+1,2,none⟩=some (.slice none 0 0):=qi_ S 2;have f0:=qh_ S 0;have f1:=qh_ S 1;have f2:=qh_ S 2;have y0:w1.cell? ⟨w.heap.size,0,none⟩=some (.int .i64 (d:Int)):=qi_ X 0;have y1:w1.cell? ⟨w.heap.size,1,none⟩=some (.int .i64 (n:Int)):=qi_ X 1;have y2:w1.cell? ⟨w.heap.size,2,none⟩=some (.slice A l.length c):=qi_ X 2;have HS:=Aside0.mk S;have HX:=Aside0.mk X;clear S X hd)
    | (go_at_call 139;refine (qq1_.calls k2 _ _ _ _ _ HK2.out).mono ?_;rintro e w2 ⟨rfl,hd⟩;have hd2:Below w1.heap.size w1 w2:=hd.below;have HB2:=Aside0.mk (show Below w.heap.size w w2 from qm_ HB.out hd2);have S:=ql_ HS.out hd2;have X:=ql_ HX.out hd2;have x0':w2.cell? ⟨w.heap.size+1,0,none⟩=some (.int .i64 0):=qi_ S 0;have x1':w2.cell? ⟨w.heap.size+1,1,none⟩=some (.int .i64 0):=qi_ S 1;have x2':w2.cell? ⟨w.heap.size+1,2,none⟩=some (.slice none 0 0):=qi_ S 2;have f0':=qh_ S 0;have f1':=qh_ S 1;have f2':=qh_ S 2;have y0':w2.cell? ⟨w.heap.size,0,none⟩=some (.int .i64 (d:Int)):=qi_ X 0;have y1':w2.cell? ⟨w.heap.size,1,none⟩=some (.int .i64 (n:Int)):=qi_ X 1;have y2':w2.cell? ⟨w.heap.size,2,none⟩=some (.slice A l.length c):=qi_ X 2;have HS2:=Aside0.mk S;have HX2:=Aside0.mk X;clear S X hd hd2))
  refine bodyPost_ret (results_ct rfl _ _ (w.heap.size+1) 38 _ (0,0) _ rfl (qj2_ (qj2_ (qj2_ HS2.out 0 _) 1 _) 2 _) hu rfl (by kernel_rfl)) rfl ?_
  exact ⟨_,rfl,Kd.R_nil _ _ _ _ _,((HB2.out.setCell (by simp) _).setCell (by simp) _).setCell (by simp) _⟩
set_option maxHeartbeats 16000000 in
set_option maxRecDepth 100000 in
theorem without_3 (w:World) (d n:Nat) (A:Option Addr) (c:Nat) (l:List S79) (u:ByteArray) (g B:Nat) (cut:ByteArray→ByteArray × Bool) (hr:Kd.C k79 w A l.length l) (hl:l.length≤1048576∧∀ x ∈ l,x.f0.size≤1048576) (hs:Sz d n) (hk:IsBy d n A c l true) (k2:Nat) (hk2:qq1_.f k2 (d:Int) u (n:Int)=some true)
    (eg:∀ args w,(callFunc g args).run Try.prog w=.ok (.enter g args) w) (hB:w.cell? ⟨B,0,none⟩=some (.string u)) (hg:CutsBy g B u cut) (hcut:∀ x ∈ l,(cut x.f0).2=true→isWd d n (cut x.f0).1) (hok:okTs d n l) :
    Calls Try.prog 87 #[.agg #[.int .i64 (d:Int),.int .i64 (n:Int),.slice A l.length c],.string u,.func (.func g) #[] #[.pointer (some ⟨B,0,none⟩)]] w (toldT (withT cut d n l) w):=by
  obtain ⟨R,hR⟩:∃ R,R=toldT (withT cut d n l) w:=⟨_,rfl⟩
  rw [← hR]
  have HRR:=Aside0.mk hR
  clear hR
  have hu:=Try.underlying38
  have hu2:=Try.underlying79
  have hu3:=Try.underlying77
  have HK:=Aside0.mk hk
  have HK2:=Aside0.mk hk2
  have HR:=Aside0.mk hr
  have HSz:=Aside0.mk hs
  have HCell:=Aside0.mk hB
  have HCut:=Aside0.mk hg
  have HWd:=Aside0.mk hcut
  have HOk:=Aside0.mk hok
  have HLs:=Aside0.mk hl
  clear hr hk hk2 hB hg hcut hok hl hs
  go_enter Try.func87,Try.ntmps87
  go_wp2_with (first
    | (go_at_call 83;refine (HK.out _ (Kd.qn2_ HR.out (qb_ (qb_ (Below.refl _ _) _) _))).mono ?_;rintro e w1 ⟨rfl,hd⟩;have HB:=Aside0.mk (show Below w.heap.size w w1 from qm_ (qb_ (qb_ (Below.refl _ _) _) _) hd);have S:w1.heap[w.heap.size+1]?=some (.cells #[.int .i64 0,.int .i64 0,.slice none 0 0] 38 (0,0)):=ql_ (new_at (by simp)) hd;have X:w1.heap[w.heap.size]?=some (.cells #[.int .i64 (d:Int),.int .i64 (n:Int),.slice A l.length c] 38 (0,0)):=ql_ (old_at (new_at rfl)) hd;have x0:w1.cell? ⟨w.heap.size+1,0,none⟩=some (.int .i64 0):=qi_ S 0;have x1:w1.cell? ⟨w.heap.size+1,1,none⟩=some (.int .i64 0):=qi_ S 1;have x2:w1.cell? ⟨w.heap.size+1,2,none⟩=some (.slice none 0 0):=qi_ S 2;have f0:=qh_ S 0;have f1:=qh_ S 1;have f2:=qh_ S 2;have y0:w1.cell? ⟨w.heap.size,0,none⟩=some (.int .i64 (d:Int)):=qi_ X 0;have y1:w1.cell? ⟨w.heap.size,1,none⟩=some (.int .i64 (n:Int)):=qi_ X 1;have y2:w1.cell? ⟨w.heap.size,2,none⟩=some (.slice A l.length c):=qi_ X 2;have HS:=Aside0.mk S;have HX:=Aside0.mk X;clear S X hd)
    | (go_at_call 139;refine (qq1_.calls k2 _ _ _ _ _ HK2.out).mono ?_;rintro e w2 ⟨rfl,hd⟩;have hd2:Below w1.heap.size w1 w2:=hd.below;have HB2:=Aside0.mk (show Below w.heap.size w w2 from qm_ HB.out hd2);have S:=ql_ HS.out hd2;have X:=ql_ HX.out hd2;have x0':w2.cell? ⟨w.heap.size+1,0,none⟩=some (.int .i64 0):=qi_ S 0;have x1':w2.cell? ⟨w.heap.size+1,1,none⟩=some (.int .i64 0):=qi_ S 1;have x2':w2.cell? ⟨w.heap.size+1,2,none⟩=some (.slice none 0 0):=qi_ S 2;have f0':=qh_ S 0;have f1':=qh_ S 1;have f2':=qh_ S 2;have y0':w2.cell? ⟨w.heap.size,0,none⟩=some (.int .i64 (d:Int)):=qi_ X 0;have y1':w2.cell? ⟨w.heap.size,1,none⟩=some (.int .i64 (n:Int)):=qi_ X 1;have y2':w2.cell? ⟨w.heap.size,2,none⟩=some (.slice A l.length c):=qi_ X 2;have HS2:=Aside0.mk S;have HX2:=Aside0.mk X;clear S X hd hd2)
    | (go_at_call 126;refine (newTable_ _ d n HSz.out).mono ?_;rintro e w3 ⟨g1,k1,rfl,T,hg,hh,hb3⟩;have HO:=Aside0.mk T;have HG:=Aside0.mk (Nat.le_trans HB2.out.size hg);have HH:=Aside0.mk (Nat.le_trans HB2.out.size hh);have HB3:=Aside0.mk (show Below w.heap.size w w3 from qm_ HB2.out hb3);have S:=ql_ HS2.out hb3;have X:=ql_ HX2.out hb3;have z2:w3.cell? ⟨w.heap.size,2,none⟩=some (.slice A l.length c):=qi_ X 2;have HS3:=Aside0.mk S;have HGL:=Aside0.mk (show w.heap.size+1<g1 from by have h1:=blk_lt HS2.out;omega);have HHL:=Aside0.mk (show w.heap.size+1<k1 from by have h1:=blk_lt HS2.out;omega);clear T hg hh hb3 S X))
  go_loopg [33] l.length (fun gg v33 wr=>∃ i:Nat,i≤l.length∧l.length - i≤gg∧v33=.int .i64 i∧Aside0 (TabAt wr g1 k1 (withT cut d n (l.take i)))∧Aside0 (Below w.heap.size w wr)∧Aside0 (wr.heap[w.heap.size+1]?=some (.cells #[.int .i64 0,.int .i64 0,.slice none 0 0] 38 (0,0))))
  case atStart=>exact ⟨0,Nat.zero_le _,by omega,rfl,HO,HB3,HS3⟩
  case round =>
    clear HO HB3 HS3
    obtain ⟨i,hi,hg,rfl,HO,HB3,HS3⟩:=hrel
    by_cases hlt:i<l.length
    · have hltz:(i:Int)<(l.length:Int):=by omega
      obtain ⟨ad,rfl,t0,t1,t2⟩:=at_T79 (Kd.qn2_ HR.out HB3.out) (i:Int) (by omega) (by omega)
      have e1:rd_T79 l (i:Int)=l[i]:=by simp [rd_T79,List.getD_eq_getElem?_getD,List.getElem?_eq_getElem hlt]
      obtain ⟨x,hx⟩:∃ x,x=l[i]:=⟨_,rfl⟩
      rw [e1,← hx,Int.toNat_natCast] at t0 t1 t2
      have hmem:x ∈ l:=by rw [hx];exact List.getElem_mem hlt
      have HX:=Aside0.mk hx
      have HMem:=Aside0.mk hmem
      have hf:=(HOk.out x hmem).2
      have HF:=Aside0.mk hf
      have hsz:=HLs.out.2 x hmem
      have hcB:wr.cell? ⟨B,0,none⟩=some (.string u):=(HB3.out.cell (World.block_lt_of_cell? w _ HCell.out)).trans HCell.out
      have hcall:Calls Try.prog g #[.string x.f0,.pointer (some ⟨B,0,none⟩)] (wr.alloc (.cells #[.string x.f0,.int .i64 x.f1.f0,.int .i64 x.f1.f1] 79)) fun e w'=>e=.returned (.tuple #[.string (cut x.f0).1,.bool (cut x.f0).2])∧Below (wr.alloc (.cells #[.string x.f0,.int .i64 x.f1.f0,.int .i64 x.f1.f1] 79)).heap.size (wr.alloc (.cells #[.string x.f0,.int .i64 x.f1.f0,.int .i64 x.f1.f1] 79)) w':=HCut.out _ _ hsz ((qb_ (Below.refl wr.heap.size wr) _).cell (World.block_lt_of_cell? wr _ hcB) |>.trans hcB)
      have HCall:=Aside0.mk hcall
      have hlk:=withT_like (cut:=cut) HSz.out (l.take i)
      obtain ⟨O,hO⟩:∃ O,O=withT cut d n (l.take i):=⟨_,rfl⟩
      rw [← hO] at hlk HO
      have HLK:=Aside0.mk hlk
      have HOO:=Aside0.mk hO
      obtain ⟨b,hbb⟩:∃ b,b=(cut x.f0).2:=⟨_,rfl⟩
      obtain ⟨q,hqq⟩:∃ q,q=(cut x.f0).1:=⟨_,rfl⟩
      have HBB:=Aside0.mk hbb
      have HQQ:=Aside0.mk hqq
      have HStep:=Aside0.mk (show withT cut d n (l.take (i+1))=if b=true then O.addW (decW q) x.f1 else O from by
        rw [List.take_succ_eq_append_getElem hlt,withT,List.foldl_append,← hx]
        show withStep cut (withT cut d n (l.take i)) x=_
        rw [← hO,hbb,hqq];rfl)
      rw [← hbb,← hqq] at HCall
      have lo1:=HO.out.ltg
      have lo2:=HO.out.lth
      clear hx hmem hf hsz hcB hcall hlk hO e1 hqq hbb
      cases b with
      | false =>
        go_wp2
        refine HCall.out.mono ?_
        rintro e w4 ⟨rfl,hb4⟩
        have HO4:=Aside0.mk (TabAt.below (HO.out.alloc _) hb4)
        have HB4:=Aside0.mk (show Below w.heap.size w w4 from qm_ (qb_ HB3.out _) hb4)
        have HS4:=Aside0.mk (ql_ (old_at HS3.out) hb4)
        clear hb4
        go_wp2
        go_roundg (l.length - (i+1))
        case measure=>omega
        case rel =>
          refine ⟨i+1,by omega,by omega,by have:=HLs.out.1;first|rfl|(rw [w64 (by omega) (by omega)];rfl),⟨?_⟩,HB4,HS4⟩
          rw [HStep.out];simpa using HO4.out
      | true =>
        have HWQ:=Aside0.mk (show isWd d n q from by rw [HQQ.out];exact HWd.out x HMem.out HBB.out.symm)
        have HAdd:=Aside0.mk (show ∀ W,TabAt W g1 k1 O→Calls Try.prog 159 #[.pointer (some ⟨g1,0,none⟩),.string q,.agg #[.int .i64 x.f1.f0,.int .i64 x.f1.f1]] W fun e w'=>e=.returned (.tuple #[])∧TabAt w' g1 k1 (O.addW (decW q) x.f1)∧Mut W w' (fun k=>k=g1∨k=k1) from fun W H=>by
          have:=add' W g1 k1 O H HLK.out.2.2 (decW q) (by rw [HLK.out.1,HLK.out.2.1];exact HWQ.out.2) x.f1 HF.out
          rwa [HWQ.out.1] at this)
        go_wp2
        refine HCall.out.mono ?_
        rintro e w4 ⟨rfl,hb4⟩
        have HO4:=Aside0.mk (TabAt.below (HO.out.alloc _) hb4)
        have HB4:=Aside0.mk (show Below w.heap.size w w4 from qm_ (qb_ HB3.out _) hb4)
        have HS4:=Aside0.mk (ql_ (old_at HS3.out) hb4)
        have X4:TmAt w4 wr.heap.size x:=ql_ (new_at rfl) hb4
        have v1:=X4.c1
        have v2:=X4.c2
        clear hb4 X4
        go_wp2_with (first
          | (go_at_call 159;refine (HAdd.out _ HO4.out).mono ?_;rintro e w5 ⟨rfl,T5,M5⟩;have HO5:=Aside0.mk T5;have HB5:=Aside0.mk (show Below w.heap.size w w5 from Mut.below M5 HB4.out HB4.out.size (fun j _ hj=>by have h1:=HGL.out;have h2:=HHL.out;rcases hj with hj|hj <;> omega));have HS5:=Aside0.mk ((M5.block (w.heap.size+1) (blk_lt HS4.out) (fun hj=>by have h1:=HGL.out;have h2:=HHL.out;rcases hj with hj|hj <;> omega)).trans HS4.out);clear T5 M5))
        go_roundg (l.length - (i+1))
        case measure=>omega
        case rel =>
          refine ⟨i+1,by omega,by omega,by have:=HLs.out.1;first|rfl|(rw [w64 (by omega) (by omega)];rfl),⟨?_⟩,HB5,HS5⟩
          rw [HStep.out];simpa using HO5.out
    · have hltz:¬ (i:Int)<(l.length:Int):=by omega
      obtain rfl:i=l.length:=by omega
      rw [List.take_length] at HO
      have hlk:=withT_like (cut:=cut) HSz.out l
      have HLK:=Aside0.mk hlk
      clear hlk
      have ht:=told_ wr HO.out HLK.out.2.2
      unfold toldT at ht
      cases hbad:(withT cut d n l).bad with
      | true =>
        rw [hbad,if_pos rfl] at ht
        have HT:=Aside0.mk ht
        have HBad:=Aside0.mk hbad
        clear ht hbad
        go_wp2_with (go_at_call 96;refine HT.out.mono ?_;rintro e w6 ⟨v,rfl,hv,hb6⟩;obtain ⟨A1,c1,rfl⟩:=Kd.qq2_ hv;have HB6:=Aside0.mk (show Below w.heap.size w w6 from qm_ HB3.out hb6);have HV:=Aside0.mk (Kd.qt2_ hv HB3.out.size);have S:=ql_ HS3.out hb6;have x0:w6.cell? ⟨w.heap.size+1,0,none⟩=some (.int .i64 0):=qi_ S 0;have x1:w6.cell? ⟨w.heap.size+1,1,none⟩=some (.int .i64 0):=qi_ S 1;have x2:w6.cell? ⟨w.heap.size+1,2,none⟩=some (.slice none 0 0):=qi_ S 2;have f0:=qh_ S 0;have f1:=qh_ S 1;have f2:=qh_ S 2;have HS6:=Aside0.mk S;clear S hv hb6)
        refine bodyPost_ret (results_ct rfl _ _ (w.heap.size+1) 38 _ (0,0) _ rfl (qj2_ (qj2_ (qj2_ HS6.out 0 _) 1 _) 2 _) hu rfl (by kernel_rfl)) rfl ?_
        rw [HRR.out]
        unfold toldT
        rw [if_pos HBad.out]
        refine ⟨_,rfl,?_,((HB6.out.setCell (by simp) _).setCell (by simp) _).setCell (by simp) _⟩
        exact Kd.R_set (Kd.R_set (Kd.R_set HV.out HS6.out (by decide) 0 _) (qj2_ HS6.out 0 _) (by decide) 1 _) (qj2_ (qj2_ HS6.out 0 _) 1 _) (by decide) 2 _
      | false =>
        rw [hbad,if_neg (by simp)] at ht
        have HT:=Aside0.mk ht
        have HBad:=Aside0.mk hbad
        clear ht hbad
        go_wp2_with (go_at_call 96;refine HT.out.mono ?_;rintro e w6 ⟨v,rfl,hv,hb6⟩;obtain ⟨A1,c1,rfl⟩:=Kd.qq2_ hv;have HB6:=Aside0.mk (show Below w.heap.size w w6 from qm_ HB3.out hb6);have HV:=Aside0.mk (Kd.qt2_ hv HB3.out.size);have S:=ql_ HS3.out hb6;have x0:w6.cell? ⟨w.heap.size+1,0,none⟩=some (.int .i64 0):=qi_ S 0;have x1:w6.cell? ⟨w.heap.size+1,1,none⟩=some (.int .i64 0):=qi_ S 1;have x2:w6.cell? ⟨w.heap.size+1,2,none⟩=some (.slice none 0 0):=qi_ S 2;have f0:=qh_ S 0;have f1:=qh_ S 1;have f2:=qh_ S 2;have HS6:=Aside0.mk S;clear S hv hb6)
        refine bodyPost_ret (results_ct rfl _ _ (w.heap.size+1) 38 _ (0,0) _ rfl (qj2_ (qj2_ (qj2_ HS6.out 0 _) 1 _) 2 _) hu rfl (by kernel_rfl)) rfl ?_
        rw [HRR.out]
        unfold toldT
        rw [if_neg (by rw [HBad.out];simp)]
        refine ⟨_,rfl,?_,((HB6.out.setCell (by simp) _).setCell (by simp) _).setCell (by simp) _⟩
        exact Kd.R_set (Kd.R_set (Kd.R_set HV.out HS6.out (by decide) 0 _) (qj2_ HS6.out 0 _) (by decide) 1 _) (qj2_ (qj2_ HS6.out 0 _) 1 _) (by decide) 2 _
end Go.Proofs.Ytaiefdhenikiiaa.Base
namespace Go.Proofs.Ytaiefdhenikiiaa.Base
open Go.RowKit Go.Proofs.YtaiefdhenikiiaaW.PrintWords Go.Proofs.YtaiefdhenikiiaaW.PrintLast Go.Proofs.YtaiefdhenikiiaaW.PrintMore Go.Proofs.YtaiefdhenikiiaaC
set_option linter.unusedVariables false
set_option linter.unusedSimpArgs false
theorem enters_at2 {P:Program} {f:FuncId} {fn:Func} (hf:P.funcs[f]?=some fn) (hname:(fn.name == "runtime.NumGoroutine")=false) (hb:fn.body.isSome=true):∀ args w,(callFunc f args).run P w=.ok (.enter f args) w:=fun args w=>enters_ hf hname (by simpa using hb) args w
end Go.Proofs.Ytaiefdhenikiiaa.Base
namespace Go.Proofs.Ytaiefdhenikiiaa.Base
open Go.RowKit Go.Proofs.YtaiefdhenikiiaaW.PrintWords Go.Proofs.YtaiefdhenikiiaaW.PrintLast Go.Proofs.YtaiefdhenikiiaaW.PrintMore
set_option linter.unusedVariables false
set_option linter.unusedSimpArgs false
theorem sin_is (x lo hi:Int):qc2_.f x lo hi=some (decide (lo≤x∧x≤hi)):=by
  unfold qc2_.f
  by_cases h:lo≤x
  · simp [h]
  · simp [h]
theorem sfrac_is (a:S77):Ev (fun k=>qc1_.f k a.f0 a.f1) (decide (okF a)):=by
  by_cases h1:1≤a.f1∧a.f1≤1000000000
  · by_cases h2:-1000000000≤a.f0∧a.f0≤1000000000
    · have:=sisfrac_is a.f0 a.f1 (by omega) (by omega)
      exact this
    · unfold qc1_.f
      simp only [sin_is,Option.bind_some]
      simp only [h1,h2,and_self,decide_true,decide_false,if_true,Bool.false_eq_true,if_false]
      rw [decide_eq_false (fun h:okF a=>h2 ⟨h.2.2.1,h.2.2.2.1⟩)]
      exact Ev.now _
  · unfold qc1_.f
    simp only [sin_is,Option.bind_some]
    simp only [h1,decide_false,Bool.false_eq_true,if_false]
    rw [decide_eq_false (fun h:okF a=>h1 ⟨h.1,h.2.1⟩)]
    exact Ev.now _
theorem sbef_is (a b:ByteArray):qk2_.f a b=some (befW a b):=by
  unfold qk2_.f befW
  by_cases h:(a.size:Int)=(b.size:Int)
  · rw [if_pos h,if_neg (by simpa using h)]
  · rw [if_neg h,if_pos h]
theorem sword_loop (d:Nat) (hd:d≤9) (s:ByteArray) (hs:s.size≤9223372036854775806) (m:Nat):∀ i:Nat,i+m=s.size →
    Ev (fun k=>qd1_.l0 k (d:Int) s (i:Int)) ((s.data.toList.drop i).all (letB d)):=by
  have hsz:s.data.toList.length=s.size:=by rw [Array.length_toList];rfl
  induction m with
  | zero =>
    intro i hi
    refine Ev.step (f:=fun _=>some true) (fun k=>?_) ?_
    · simp only [qd1_.l0]
      rw [if_neg (by omega)]
    · rw [List.drop_eq_nil_of_le (by omega)]
      exact Ev.now _
  | succ m ih =>
    intro i hi
    have hlt:i<s.data.toList.length:=by omega
    have hls:i<s.size:=by omega
    have hb:bt s (i:Int)=((s.data.toList[i]).toNat:Int):=by
      unfold bt
      rw [dif_pos (by simpa using hls)]
      rfl
    have hr:(s.data.toList[i]).toNat<256:=(s.data.toList[i]).toNat_lt
    obtain ⟨b,hbb⟩:∃ b,b=s.data.toList[i]:=⟨_,rfl⟩
    rw [List.drop_eq_getElem_cons hlt,List.all_cons,← hbb]
    rw [← hbb] at hb hr
    by_cases c:letB d b=true
    · refine Ev.step (fun k=>?_) (by rw [c,Bool.true_and];exact ih (i+1) (by omega))
      have c':=of_decide_eq_true c
      simp only [qd1_.l0]
      rw [if_pos (by omega),if_pos (by omega),hb,if_neg (by omega),if_neg (by omega),w64 (by omega) (by omega)]
      rfl
    · have cf:letB d b=false:=by simpa using c
      have c':=of_decide_eq_false cf
      rw [cf,Bool.false_and]
      refine Ev.step (f:=fun _=>some false) (fun k=>?_) (Ev.now _)
      simp only [qd1_.l0]
      rw [if_pos (by omega),if_pos (by omega),hb]
      by_cases c2:(b.toNat:Int)<48
      · rw [if_pos c2]
      · rw [if_neg c2,if_pos (by omega)]
def lettersB (d:Nat) (s:ByteArray):Bool:=s.data.toList.all (letB d)
theorem sword_is (d:Nat) (hd:d≤9) (s:ByteArray) (hs:s.size≤9223372036854775806):Ev (fun k=>qd1_.f k (d:Int) s) (lettersB d s) :=
  sword_loop d hd s hs s.size 0 (by omega)
def goodP (d n:Nat):Option S79→List S79→Bool
  | _,[]=>true
  | y,x :: l=>wordB d n x.f0 && (decide (okF x.f1) && ((x.f1.f0 != 0) && ((match y with|none=>true|some y=>befW y.f0 x.f0) && goodP d n (some x) l)))
theorem goodP_step (d n:Nat) (y:Option S79) (x:S79) (l:List S79):goodP d n y (x :: l)=(wordB d n x.f0 && (decide (okF x.f1) && ((x.f1.f0 != 0) && ((match y with|none=>true|some y=>befW y.f0 x.f0) && goodP d n (some x) l)))):=rfl
theorem goodP_cons (d n:Nat):∀ (l:List S79) (x:S79),goodB d n (x :: l)=(termB d n none x && goodP d n (some x) l)
  | [],x=>by simp [goodB,goodP]
  | y :: l,x=>by
    have ih:=goodP_cons d n l y
    have e:goodB d n (x :: y :: l)=(termB d n none x && (befW x.f0 y.f0 && goodB d n (y :: l))):=rfl
    rw [e,ih]
    rw [goodP_step]
    unfold termB
    simp only [Bool.and_true]
    cases wordB d n y.f0 <;> cases decide (okF y.f1) <;> cases (y.f1.f0 != 0) <;> cases befW x.f0 y.f0 <;> simp
theorem goodP_is (d n:Nat) (l:List S79):goodP d n none l=goodB d n l:=by
  cases l with
  | nil=>rfl
  | cons x l=>rw [goodP_cons,goodP_step];unfold termB;simp only [Bool.and_true,Bool.true_and];cases wordB d n x.f0 <;> cases decide (okF x.f1) <;> cases (x.f1.f0 != 0) <;> rfl
def prevT (l:List S79) (j:Nat):Option S79:=if j=0 then none else l[j - 1]?
def smallT (l:List S79):Prop:=l.length≤1048576∧∀ x ∈ l,x.f0.size≤1048576
theorem are_loop (d n:Nat) (hd:d≤9) (l:List S79) (hl:smallT l) (m:Nat):∀ j:Nat,j+m=l.length →
    Ev (fun k=>qu_.l0 k (d:Int) (n:Int) l l (l.length:Int) (j:Int)) (goodP d n (prevT l j) (l.drop j)):=by
  induction m with
  | zero =>
    intro j hj
    refine Ev.step (f:=fun _=>some true) (fun k=>?_) ?_
    · simp only [qu_.l0];rw [if_neg (by omega)]
    · rw [List.drop_eq_nil_of_le (by omega)];exact Ev.now _
  | succ m ih =>
    intro j hj
    have hjl:j<l.length:=by omega
    have hlen:=hl.1
    have ih:=ih (j+1) (by omega)
    obtain ⟨x,hx⟩:∃ x,x=l[j]:=⟨_,rfl⟩
    have hxs:x.f0.size≤1048576:=by rw [hx];exact hl.2 _ (List.getElem_mem hjl)
    have hpn:prevT l (j+1)=some x:=by unfold prevT;rw [if_neg (by omega),hx];simp [List.getElem?_eq_getElem hjl]
    rw [hpn] at ih
    rw [List.drop_eq_getElem_cons hjl,← hx]
    rw [goodP_step]
    have hw:=word_is d n hd x.f0 (by omega)
    have hf:=frac_is x.f1
    refine Ev.step (f:=fun k=>(qq1_.f k (d:Int) x.f0 (n:Int)).bind fun t=>if t=true then (qg1_.f k x.f1.f0 x.f1.f1).bind fun t=>(if t=true then (if x.f1.f0=0 then some false else (if (j:Int) > 0 then ((ql2_.f (rd_T79 l (wrap64 ((j:Int) - 1))).f0 x.f0).bind fun t=>if t≥0 then some false else qu_.l0 k (d:Int) (n:Int) l l (l.length:Int) ((j+1:Nat):Int)) else qu_.l0 k (d:Int) (n:Int) l l (l.length:Int) ((j+1:Nat):Int))) else some false) else some false) (fun k=>?_) (Ev.bind hw ?_)
    · simp only [qu_.l0]
      rw [if_pos (by omega),if_pos (by omega),if_pos (by omega),rd79 l j hjl,← hx,w64 (x:=(j:Int)+1) (by omega) (by omega)]
      by_cases cj:(j:Int) > 0
      · simp only [if_pos cj,w64 (x:=(j:Int) - 1) (by omega) (by omega),if_pos (show 0≤(j:Int) - 1 by omega),if_pos (show (j:Int) - 1<(l.length:Int) by omega)]
        rfl
      · simp only [if_neg cj]
        rfl
    · cases cw:wordB d n x.f0 with
      | false=>simp only [Bool.false_eq_true,if_false,Bool.false_and];exact Ev.now _
      | true =>
        simp only [if_true,Bool.true_and]
        refine Ev.bind hf ?_
        cases cf:decide (okF x.f1) with
        | false=>simp only [Bool.false_eq_true,if_false,Bool.false_and];exact Ev.now _
        | true =>
          simp only [if_true,Bool.true_and]
          by_cases cz:x.f1.f0=0
          · simp only [cz,if_true]
            exact Ev.now _
          · simp only [if_neg cz,show (x.f1.f0 != 0)=true from by simpa using cz,Bool.true_and]
            by_cases cj:j=0
            · subst cj
              have:prevT l 0=none:=rfl
              rw [this]
              simp only [Bool.true_and]
              simp only [show ¬ ((0:Nat):Int) > 0 by omega,if_false]
              exact ih
            · have hp:prevT l j=some (l[j - 1]'(by omega)):=by unfold prevT;rw [if_neg cj,List.getElem?_eq_getElem (by omega)]
              rw [hp]
              simp only [show ((j:Nat):Int) > 0 by omega,if_true,w64 (x:=(j:Int) - 1) (by omega) (by omega)]
              have hr:rd_T79 l ((j:Int) - 1)=l[j - 1]'(by omega):=by rw [show (j:Int) - 1=((j - 1:Nat):Int) by omega];exact rd79 l (j - 1) (by omega)
              rw [hr]
              have hys:(l[j - 1]'(by omega)).f0.size≤1048576:=hl.2 _ (List.getElem_mem _)
              have hc:=cmp_bef (l[j - 1]'(by omega)).f0 x.f0 (by omega) (by omega)
              unfold ql2_.f
              simp only [Option.bind_some]
              rw [← hc]
              by_cases cc:cmpW (l[j - 1]'(by omega)).f0 x.f0<0
              · rw [decide_eq_true cc,Bool.true_and]
                simp only [if_neg (show ¬ cmpW (l[j - 1]'(by omega)).f0 x.f0≥0 by omega)]
                exact ih
              · rw [decide_eq_false cc,Bool.false_and]
                simp only [if_pos (show cmpW (l[j - 1]'(by omega)).f0 x.f0≥0 by omega)]
                exact Ev.now _
theorem are_is (d n:Nat) (hd:d≤9) (l:List S79) (hl:smallT l):Ev (fun k=>qu_.f k (d:Int) (n:Int) l) (goodB d n l):=by
  have:=are_loop d n hd l hl l.length 0 (by omega)
  rw [List.drop_zero,show prevT l 0=none from rfl,goodP_is] at this
  exact this
theorem sis_loop (d n:Nat) (hd:d≤9) (l:List S79) (hl:smallT l) (m:Nat):∀ j:Nat,j+m=l.length →
    Ev (fun k=>qx_.l0 k (j:Int) (d:Int) (n:Int) l) (goodP d n (prevT l j) (l.drop j)):=by
  induction m with
  | zero =>
    intro j hj
    refine Ev.step (f:=fun _=>some true) (fun k=>?_) ?_
    · simp only [qx_.l0];rw [if_neg (by omega)]
    · rw [List.drop_eq_nil_of_le (by omega)];exact Ev.now _
  | succ m ih =>
    intro j hj
    have hjl:j<l.length:=by omega
    have hlen:=hl.1
    have ih:=ih (j+1) (by omega)
    obtain ⟨x,hx⟩:∃ x,x=l[j]:=⟨_,rfl⟩
    have hxs:x.f0.size≤1048576:=by rw [hx];exact hl.2 _ (List.getElem_mem hjl)
    have hpn:prevT l (j+1)=some x:=by unfold prevT;rw [if_neg (by omega),hx];simp [List.getElem?_eq_getElem hjl]
    rw [hpn] at ih
    rw [List.drop_eq_getElem_cons hjl,← hx]
    have hw:=sword_is d hd x.f0 (by omega)
    have hf:=sfrac_is x.f1
    have hbad:Ev (fun k=>qx_.j1 k (j:Int) true (d:Int) (n:Int) l x.f0 x.f1.f0 x.f1.f1) false:=by
      refine Ev.step (f:=fun _=>some false) (fun k=>?_) (Ev.now _)
      simp only [qx_.j1,if_true]
    have hgo:Ev (fun k=>qx_.j1 k (j:Int) false (d:Int) (n:Int) l x.f0 x.f1.f0 x.f1.f1) ((match prevT l j with|none=>true|some y=>befW y.f0 x.f0) && goodP d n (some x) (l.drop (j+1))):=by
      by_cases cj:j=0
      · subst cj
        have:prevT l 0=none:=rfl
        rw [this]
        simp only [Bool.true_and]
        refine Ev.step (fun k=>?_) ih
        simp only [qx_.j1,Bool.false_eq_true,if_false]
        rw [if_neg (by omega),w64 (by omega) (by omega)];rfl
      · have hp:prevT l j=some (l[j - 1]'(by omega)):=by unfold prevT;rw [if_neg cj,List.getElem?_eq_getElem (by omega)]
        rw [hp]
        dsimp only
        have hr:rd_T79 l ((j:Int) - 1)=l[j - 1]'(by omega):=by rw [show (j:Int) - 1=((j - 1:Nat):Int) by omega];exact rd79 l (j - 1) (by omega)
        refine Ev.step (f:=fun k=>if befW (l[j - 1]'(by omega)).f0 x.f0=true then qx_.l0 k ((j+1:Nat):Int) (d:Int) (n:Int) l else some false) (fun k=>?_) ?_
        · simp only [qx_.j1,Bool.false_eq_true,if_false]
          rw [if_pos (by omega),w64 (x:=(j:Int) - 1) (by omega) (by omega),if_pos (by omega),if_pos (by omega),hr,sbef_is,w64 (x:=(j:Int)+1) (by omega) (by omega)]
          rfl
        · cases befW (l[j - 1]'(by omega)).f0 x.f0 with
          | false=>simp only [Bool.false_eq_true,if_false,Bool.false_and];exact Ev.now _
          | true=>simp only [if_true,Bool.true_and];exact ih
    rw [goodP_step]
    by_cases cs:(x.f0.size:Int) > (n:Int)
    · have:wordB d n x.f0=false:=by unfold wordB;rw [decide_eq_false (by omega),Bool.and_false]
      rw [this,Bool.false_and]
      refine Ev.step (fun k=>?_) hbad
      simp only [qx_.l0]
      rw [if_pos (by omega),if_pos (by omega),rd79 l j hjl,← hx,if_pos cs]
    · have hwb:wordB d n x.f0=lettersB d x.f0:=by unfold wordB lettersB;rw [decide_eq_true (by omega),Bool.and_true]
      rw [hwb]
      refine Ev.step (f:=fun k=>(qd1_.f k (d:Int) x.f0).bind fun t=>if t=true then (qc1_.f k x.f1.f0 x.f1.f1).bind fun t=>(if t=true then qx_.j1 k (j:Int) (x.f1.f0==0) (d:Int) (n:Int) l x.f0 x.f1.f0 x.f1.f1 else qx_.j1 k (j:Int) true (d:Int) (n:Int) l x.f0 x.f1.f0 x.f1.f1) else qx_.j1 k (j:Int) true (d:Int) (n:Int) l x.f0 x.f1.f0 x.f1.f1) (fun k=>?_) (Ev.bind hw ?_)
      · simp only [qx_.l0]
        rw [if_pos (by omega),if_pos (by omega),rd79 l j hjl,← hx,if_neg cs]
        rfl
      · cases cw:lettersB d x.f0 with
        | false=>simp only [Bool.false_eq_true,if_false,Bool.false_and];exact hbad
        | true =>
          simp only [if_true,Bool.true_and]
          refine Ev.bind hf ?_
          cases cf:decide (okF x.f1) with
          | false=>simp only [Bool.false_eq_true,if_false,Bool.false_and];exact hbad
          | true =>
            simp only [if_true,Bool.true_and]
            by_cases cz:x.f1.f0=0
            · simp only [cz,show ((0:Int)==0)=true from rfl,show ((0:Int) != 0)=false from rfl,Bool.false_and]
              rw [cz] at hbad;exact hbad
            · simp only [show (x.f1.f0==0)=false from by simpa using cz,show (x.f1.f0 != 0)=true from by simpa using cz,Bool.true_and]
              exact hgo
end Go.Proofs.Ytaiefdhenikiiaa.Base
namespace Go.Proofs.Ytaiefdhenikiiaa.Base
open Go.RowKit Go.Proofs.YtaiefdhenikiiaaW.PrintWords Go.Proofs.YtaiefdhenikiiaaW.PrintLast Go.Proofs.YtaiefdhenikiiaaW.PrintMore
set_option linter.unusedVariables false
set_option linter.unusedSimpArgs false
def lvlB (D N:Int):Bool:=decide (1≤D∧D≤3) && (decide (1≤N∧N≤5) && (decide (D<3) || decide (N<5)))
theorem lvl_impl (D N:Int):qa3_.f D N=some (lvlB D N):=by
  unfold qa3_.f qr2_.f lvlB
  simp only [within_is,Option.bind_some]
  by_cases h1:1≤D∧D≤3
  · by_cases h2:1≤N∧N≤5
    · by_cases h3:D<3 <;> simp [h1,h2,h3]
    · simp [h1,h2]
  · simp [h1]
theorem lvl_sizes (D N:Int):qp2_.f D N=some (lvlB D N):=by
  unfold qp2_.f lvlB
  simp only [sin_is,Option.bind_some]
  by_cases h1:1≤D∧D≤3
  · by_cases h2:1≤N∧N≤5
    · by_cases h3:D<3
      · simp [h1,h2,h3]
      · have e:decide (N≤4)=decide (N<5):=decide_eq_decide.2 (by omega)
        simp [h1,h2,h3,e]
    · simp [h1,h2]
  · simp [h1]
theorem lvl_nat {D N:Int} (h:lvlB D N=true):∃ d n:Nat,D=d∧N=n∧(1≤d∧d≤3)∧1≤n∧n≤5:=by
  unfold lvlB at h
  simp only [Bool.and_eq_true,decide_eq_true_eq] at h
  obtain ⟨h1,h2,_⟩:=h
  exact ⟨D.toNat,N.toNat,by omega,by omega,⟨by omega,by omega⟩,by omega,by omega⟩
def serB (D N:Int) (l:List S79):Bool:=lvlB D N && goodB D.toNat N.toNat l
theorem ser_impl (D N:Int) (l:List S79) (hl:smallT l):Ev (fun k=>qu2_.f k D N l) (serB D N l):=by
  unfold qu2_.f
  unfold serB
  refine Ev.congr (f:=fun k=>(some (lvlB D N)).bind fun t=>if t=true then qu_.f k D N l else some false) (fun k=>?_) ?_
  · rw [lvl_impl]
    cases lvlB D N with
    | false=>simp
    | true=>cases qu_.f k D N l <;> simp
  · cases h:lvlB D N with
    | false=>simp only [Option.bind_some,Bool.false_eq_true,if_false,Bool.false_and];exact Ev.now _
    | true =>
      simp only [Option.bind_some,if_true,Bool.true_and]
      obtain ⟨d,n,rfl,rfl,hs,_⟩:=lvl_nat h
      exact are_is d n (by omega) l hl
theorem ser_spec (D N:Int) (l:List S79) (hl:smallT l):Ev (fun k=>qx_.f k D N l) (serB D N l):=by
  unfold qx_.f serB
  rw [lvl_sizes]
  cases h:lvlB D N with
  | false=>simp only [Option.bind_some,Bool.false_eq_true,if_false,Bool.false_and];exact Ev.now _
  | true =>
    simp only [Option.bind_some,if_true,Bool.true_and]
    obtain ⟨d,n,rfl,rfl,hs,_⟩:=lvl_nat h
    have:=sis_loop d n (by omega) l hl l.length 0 (by omega)
    rw [List.drop_zero,show prevT l 0=none from rfl,goodP_is] at this
    exact this
end Go.Proofs.Ytaiefdhenikiiaa.Base
namespace Go.Proofs.Ytaiefdhenikiiaa.Base
open Go.RowKit Go.Proofs.YtaiefdhenikiiaaW.PrintWords Go.Proofs.YtaiefdhenikiiaaW.PrintLast Go.Proofs.YtaiefdhenikiiaaW.PrintMore
set_option linter.unusedVariables false
set_option linter.unusedSimpArgs false
theorem foldl_val (d:Nat) (l:List Nat):∀ v,l.foldl (fun v x=>v*d+x) v=v*d ^ l.length+valN d l:=by
  induction l with
  | nil=>intro v;simp [valN]
  | cons x l ih =>
    intro v
    have h0:valN d (x :: l)=l.foldl (fun v x=>v*d+x) (0*d+x):=rfl
    rw [h0,ih (0*d+x),List.foldl_cons,ih (v*d+x),List.length_cons,Nat.pow_succ,Nat.add_mul,Nat.mul_assoc,Nat.mul_comm d,Nat.zero_mul,Nat.zero_add]
    omega
theorem valN_cons (d x:Nat) (l:List Nat):valN d (x :: l)=x*d ^ l.length+valN d l:=by
  have h0:valN d (x :: l)=l.foldl (fun v x=>v*d+x) (0*d+x):=rfl
  rw [h0,foldl_val,Nat.zero_mul,Nat.zero_add]
theorem val_lt (d:Nat) (l:List Nat) (h:∀ x ∈ l,x<d):valN d l<d ^ l.length:=by
  induction l with
  | nil=>simp [valN]
  | cons x l ih =>
    have h1:=ih (fun y hy=>h y (List.mem_cons_of_mem _ hy))
    have h2:=h x List.mem_cons_self
    rw [valN_cons,List.length_cons,Nat.pow_succ,Nat.mul_comm (d ^ l.length)]
    have h3:(x+1)*d ^ l.length≤d*d ^ l.length:=Nat.mul_le_mul_right _ h2
    rw [Nat.add_mul,Nat.one_mul] at h3
    omega
theorem less_val (d:Nat):∀ a b:List Nat,a.length=b.length→(∀ x ∈ a,x<d)→(∀ x ∈ b,x<d)→(lessN a b=true ↔ valN d a<valN d b)
  | [],[],_,_,_=>by simp [lessN]
  | [],b :: y,h,_,_=>by simp at h
  | a :: x,[],h,_,_=>by simp at h
  | a :: x,b :: y,h,ha,hb=>by
    have hl:x.length=y.length:=by simpa using h
    have ih:=less_val d x y hl (fun i hi=>ha i (List.mem_cons_of_mem _ hi)) (fun i hi=>hb i (List.mem_cons_of_mem _ hi))
    have h1:=val_lt d x (fun i hi=>ha i (List.mem_cons_of_mem _ hi))
    have h2:=val_lt d y (fun i hi=>hb i (List.mem_cons_of_mem _ hi))
    simp only [lessN,Bool.or_eq_true,decide_eq_true_eq,Bool.and_eq_true,beq_iff_eq]
    rw [ih,valN_cons,valN_cons,← hl]
    rw [← hl] at h2
    obtain ⟨p,hp⟩:∃ p,p=d ^ x.length:=⟨_,rfl⟩
    rw [← hp] at h1 h2 ⊢
    constructor
    · rintro (c|⟨c,c2⟩)
      · have h3:(a+1)*p≤b*p:=Nat.mul_le_mul_right _ c
        rw [Nat.add_mul,Nat.one_mul] at h3
        omega
      · rw [c];omega
    · intro c
      by_cases e:a=b
      · right;rw [e] at c;exact ⟨e,by omega⟩
      · left
        by_cases e2:a<b
        · exact e2
        · exfalso
          have h3:(b+1)*p≤a*p:=Nat.mul_le_mul_right _ (by omega)
          rw [Nat.add_mul,Nat.one_mul] at h3
          omega
theorem ahead_mono (d:Nat) {a b:Nat} (h:a≤b):aheadN d a≤aheadN d b:=by
  induction h with
  | refl=>exact Nat.le_refl _
  | step _ ih=>simp only [aheadN];omega
theorem num_lt_iff (d:Nat) (a b:List Nat) (ha:∀ x ∈ a,x<d) (hb:∀ x ∈ b,x<d):numN d a<numN d b ↔ (if a.length≠b.length then a.length<b.length else lessN a b=true):=by
  have h1:=val_lt d a ha
  have h2:=val_lt d b hb
  unfold numN
  by_cases e:a.length=b.length
  · rw [if_neg (by simpa using e),less_val d a b e ha hb,e];omega
  · rw [if_pos e]
    constructor
    · intro c
      rcases Nat.lt_or_ge a.length b.length with c1|c1
      · exact c1
      · exfalso
        have h3:=ahead_mono d (show b.length+1≤a.length by omega)
        have h4:aheadN d (b.length+1)=aheadN d b.length+d ^ b.length:=rfl
        omega
    · intro c
      have h3:=ahead_mono d (show a.length+1≤b.length by omega)
      have h4:aheadN d (a.length+1)=aheadN d a.length+d ^ a.length:=rfl
      omega
theorem bef_enc (d:Nat) (hd:d≤9) (a b:List Nat) (ha:∀ x ∈ a,x<d) (hb:∀ x ∈ b,x<d):befW (encW a) (encW b)=decide (numN d a<numN d b):=by
  have h:=num_lt_iff d a b ha hb
  unfold befW
  rw [encW_size,encW_size,encW_list,encW_list,less_enc a b (fun i hi=>by have:=ha i hi;omega) (fun i hi=>by have:=hb i hi;omega)]
  by_cases e:a.length=b.length
  · rw [if_neg (by simpa using e)] at h
    rw [if_neg (by omega),Bool.eq_iff_iff,decide_eq_true_iff]
    exact h.symm
  · rw [if_pos e] at h
    rw [if_pos (by omega),decide_eq_decide,h]
    omega
def termOf (t:Tb) (i:Nat):Option S79:=if (t.vs.getD i zeroF).f0≠0 then some ⟨(wordsA t.d t.n).getD i ByteArray.empty,t.vs.getD i zeroF⟩ else none
def segT (t:Tb) (lo m:Nat):List S79:=(List.range' lo m).filterMap (termOf t)
theorem termsN_seg (t:Tb) (n:Nat):termsN t n=segT t 0 n:=by
  induction n with
  | zero=>rfl
  | succ n ih =>
    rw [termsN_succ,ih]
    unfold segT
    rw [List.range'_1_concat,List.filterMap_append,Nat.zero_add]
    have e:List.filterMap (termOf t) [n]=(termOf t n).toList:=by cases h:termOf t n <;> simp [h]
    rw [e]
    unfold termStep termOf
    by_cases h:(t.vs.getD n zeroF).f0≠0
    · rw [if_pos h,if_pos h];rfl
    · rw [if_neg h,if_neg h];simp
theorem termsT_seg (t:Tb):termsT t=segT t 0 (wordsD t.d t.n).length:=termsN_seg t _
theorem seg_add (t:Tb) (lo m n:Nat):segT t lo (m+n)=segT t lo m++segT t (lo+m) n:=by
  unfold segT
  rw [← List.filterMap_append,← List.range'_append_1]
theorem seg_one (t:Tb) (lo:Nat):segT t lo 1=(termOf t lo).toList:=by
  unfold segT
  simp only [List.range'_one]
  cases h:termOf t lo <;> simp [h]
theorem seg_split (t:Tb) {k L:Nat} (h:k<L):segT t 0 L=segT t 0 k++((termOf t k).toList++segT t (k+1) (L - (k+1))):=by
  conv=>lhs;rw [show L=k+(1+(L - (k+1))) by omega]
  rw [seg_add,seg_add,seg_one,Nat.zero_add]
theorem filterMap_same {α β:Type} {f g:α→Option β}:∀ {l:List α},(∀ x ∈ l,f x=g x)→l.filterMap f=l.filterMap g
  | [],_=>rfl
  | x :: l,h=>by
    rw [List.filterMap_cons,List.filterMap_cons,h x List.mem_cons_self,filterMap_same (fun y hy=>h y (List.mem_cons_of_mem _ hy))]
theorem seg_congr {t u:Tb} (hd:t.d=u.d) (hn:t.n=u.n) (lo m:Nat) (h:∀ i,lo≤i→i<lo+m→t.vs.getD i zeroF=u.vs.getD i zeroF):segT t lo m=segT u lo m:=by
  unfold segT
  apply filterMap_same
  intro i hi
  have:=List.mem_range'_1.1 hi
  unfold termOf
  rw [h i this.1 this.2,hd,hn]
theorem seg_zero (t:Tb) (lo m:Nat) (h:∀ i,lo≤i→i<lo+m→(t.vs.getD i zeroF).f0=0):segT t lo m=[]:=by
  unfold segT
  rw [List.filterMap_eq_nil_iff]
  intro i hi
  have:=List.mem_range'_1.1 hi
  unfold termOf
  rw [if_neg (by rw [h i this.1 this.2];simp)]
theorem mem_seg {t:Tb} {lo m:Nat} {x:S79} (h:x ∈ segT t lo m):∃ i,lo≤i∧i<lo+m∧termOf t i=some x:=by
  unfold segT at h
  obtain ⟨i,hi,e⟩:=List.mem_filterMap.1 h
  have:=List.mem_range'_1.1 hi
  exact ⟨i,this.1,this.2,e⟩
theorem termOf_word {t:Tb} {i:Nat} {x:S79} (hi:i<(wordsD t.d t.n).length) (h:termOf t i=some x):x.f0=encW (wordsD t.d t.n)[i]∧x.f1=t.vs.getD i zeroF∧x.f1.f0≠0:=by
  unfold termOf at h
  split at h
  · next c =>
    obtain rfl:=Option.some.inj h
    refine ⟨?_,rfl,c⟩
    show (wordsA t.d t.n).getD i ByteArray.empty=_
    unfold wordsA
    rw [List.getD_eq_getElem?_getD,List.getElem?_map,List.getElem?_eq_getElem hi];rfl
  · cases h
theorem word_digits {t:Tb} {i:Nat} (hi:i<(wordsD t.d t.n).length):isD t.d t.n (wordsD t.d t.n)[i]:=(wordsD_mem _ _ _).1 (List.getElem_mem hi)
theorem termOf_bef {t:Tb} (hs:Sz t.d t.n) {i:Nat} {x:S79} (hi:i<(wordsD t.d t.n).length) (h:termOf t i=some x) {l:List Nat} (hl:isD t.d t.n l):befW x.f0 (encW l)=decide (i<numN t.d l):=by
  rw [(termOf_word hi h).1,bef_enc t.d (by have:=hs.d3;omega) _ _ (word_digits hi).2 hl.2,wordsD_at]
theorem encW_inj {a b:List Nat} (ha:∀ x ∈ a,x<100) (hb:∀ x ∈ b,x<100) (h:encW a=encW b):a=b:=by
  rw [← decW_encW a ha,← decW_encW b hb,h]
theorem okF_zero {a:S77} (h:okF a) (h0:a.f0=0):a=zeroF:=by
  obtain ⟨h1,_,_,_,h5⟩:=h
  rw [h0,Int.gcd_zero_left] at h5
  exact S77.ext' h0 (by show a.f1=1;omega)
theorem plus_zero {a:S77} (h:okF a):plusM zeroF a=(a,true):=by
  obtain ⟨h1,h2,h3,h4,h5⟩:=h
  have e1:zeroF.f0*a.f1+a.f0*zeroF.f1=a.f0:=by show 0*a.f1+a.f0*1=a.f0;omega
  have e2:zeroF.f1*a.f1=a.f1:=by show 1*a.f1=a.f1;omega
  have e3:byM a.f0 a.f1=1:=by unfold byM;rw [if_neg (by omega),h5];rfl
  unfold plusM redM
  rw [e1,e2,e3,Int.ediv_one,Int.ediv_one]
  rw [decide_eq_true (show okF ⟨a.f0,a.f1⟩ from ⟨h1,h2,h3,h4,h5⟩)]
def putAt (l:List S79) (w:ByteArray):Nat:=(l.takeWhile fun x=>befW x.f0 w).length
def putL (l:List S79) (w:ByteArray) (a:S77):Option (List S79) :=
  match l[putAt l w]? with
  | some x=>if x.f0=w then (if (plusM x.f1 a).2=true then some (l.take (putAt l w)++(if (plusM x.f1 a).1.f0=0 then [] else [⟨w,(plusM x.f1 a).1⟩])++l.drop (putAt l w+1)) else none)
    else some (l.take (putAt l w)++(if a.f0=0 then [] else [⟨w,a⟩])++l.drop (putAt l w))
  | none=>some (l.take (putAt l w)++(if a.f0=0 then [] else [⟨w,a⟩])++l.drop (putAt l w))
theorem takeWhile_parts {α:Type} (p:α→Bool) (a b:List α) (ha:∀ x ∈ a,p x=true) (hb:∀ x ∈ b,p x=false):((a++b).takeWhile p)=a:=by
  induction a with
  | nil =>
    cases b with
    | nil=>rfl
    | cons y b=>rw [List.nil_append,List.takeWhile_cons_of_neg (by rw [hb y List.mem_cons_self];simp)]
  | cons x a ih=>rw [List.cons_append,List.takeWhile_cons_of_pos (ha x List.mem_cons_self),ih (fun y hy=>ha y (List.mem_cons_of_mem _ hy))]
theorem put_getD (t:Tb) (k:Nat) (hk:k<t.vs.length) (a:S77) (i:Nat):(t.put k a).vs.getD i zeroF=if i=k then a else t.vs.getD i zeroF:=by
  unfold Tb.put
  simp only [List.getD_eq_getElem?_getD,List.getElem?_set]
  by_cases e:k=i
  · rw [if_pos e,if_pos e.symm,if_pos (by omega),Option.getD_some]
  · rw [if_neg e,if_neg (fun h=>e h.symm)]
theorem putL_terms {t:Tb} (ht:t.Ok) {l:List Nat} (hl:isD t.d t.n l) {a:S77} (ha:okF a) :
    putL (termsT t) (encW l) a=if (plusM (t.val l) a).2=true then some (termsT (t.put (numN t.d l) (plusM (t.val l) a).1)) else none:=by
  have hk:numN t.d l<(wordsD t.d t.n).length:=numN_lt _ _ _ hl
  have hkv:=ht.lt hl
  obtain ⟨k,hke⟩:∃ k,k=numN t.d l:=⟨_,rfl⟩
  have hv:t.val l=t.vs.getD k zeroF:=by rw [hke];rfl
  have hwl:(wordsD t.d t.n)[numN t.d l]?=some l:=wordsD_is _ _ _ hl
  rw [hv]
  rw [← hke] at hk hkv hwl ⊢
  have hlw:(wordsD t.d t.n)[k]=l:=by rw [List.getElem?_eq_getElem hk] at hwl;exact Option.some.inj hwl
  have hA:∀ x ∈ segT t 0 k,befW x.f0 (encW l)=true:=by
    intro x hx
    obtain ⟨i,_,h2,e⟩:=mem_seg hx
    rw [termOf_bef ht.sz (by omega) e hl,← hke];simp;omega
  have hB:∀ x ∈ ((termOf t k).toList++segT t (k+1) ((wordsD t.d t.n).length - (k+1))),befW x.f0 (encW l)=false:=by
    intro x hx
    rcases List.mem_append.1 hx with hx|hx
    · have e:termOf t k=some x:=by simpa using hx
      rw [termOf_bef ht.sz hk e hl,← hke];simp
    · obtain ⟨i,h1,h2,e⟩:=mem_seg hx
      rw [termOf_bef ht.sz (by omega) e hl,← hke];simp;omega
  have hT:termsT t=segT t 0 k++((termOf t k).toList++segT t (k+1) ((wordsD t.d t.n).length - (k+1))):=by rw [termsT_seg,seg_split t hk]
  have hat:putAt (termsT t) (encW l)=(segT t 0 k).length:=by unfold putAt;rw [hT,takeWhile_parts _ _ _ hA hB]
  have hP:∀ b:S77,termsT (t.put k b)=segT t 0 k++((if b.f0=0 then [] else [⟨encW l,b⟩])++segT t (k+1) ((wordsD t.d t.n).length - (k+1))):=by
    intro b
    have e0:termsT (t.put k b)=segT (t.put k b) 0 (wordsD t.d t.n).length:=termsT_seg _
    rw [e0,seg_split _ hk]
    have e1:segT (t.put k b) 0 k=segT t 0 k:=seg_congr (t:=t.put k b) (u:=t) rfl rfl _ _ (fun i _ h2=>by rw [put_getD t k hkv,if_neg (by omega)])
    have e2:segT (t.put k b) (k+1) ((wordsD t.d t.n).length - (k+1))=segT t (k+1) ((wordsD t.d t.n).length - (k+1)):=seg_congr (t:=t.put k b) (u:=t) rfl rfl _ _ (fun i h1 _=>by rw [put_getD t k hkv,if_neg (by omega)])
    have e3:(termOf (t.put k b) k).toList=if b.f0=0 then [] else [⟨encW l,b⟩]:=by
      unfold termOf
      rw [put_getD t k hkv,if_pos rfl]
      have e4:(wordsA (t.put k b).d (t.put k b).n).getD k ByteArray.empty=encW l:=by
        show (wordsA t.d t.n).getD k ByteArray.empty=encW l
        unfold wordsA
        rw [List.getD_eq_getElem?_getD,List.getElem?_map,hwl];rfl
      rw [e4]
      by_cases c:b.f0=0
      · rw [if_neg (by simpa using c),if_pos c];rfl
      · rw [if_pos c,if_neg c];rfl
    rw [e1,e2,e3]
  rw [hP]
  unfold putL
  rw [hat,hT,List.take_left]
  by_cases c:(t.vs.getD k zeroF).f0=0
  · -- no such term
    have e1:termOf t k=none:=by unfold termOf;rw [if_neg (by simpa using c)]
    have hz:t.vs.getD k zeroF=zeroF:=okF_zero (by have:=ht.val l;rwa [hv] at this) c
    rw [e1,hz,plus_zero ha,if_pos rfl]
    simp only [Option.toList_none,List.nil_append]
    rw [List.drop_left,List.getElem?_append_right (Nat.le_refl _),Nat.sub_self]
    cases hR:segT t (k+1) ((wordsD t.d t.n).length - (k+1)) with
    | nil=>simp only [List.getElem?_nil,List.append_assoc]
    | cons y ys =>
      simp only [List.getElem?_cons_zero]
      have hy:y ∈ segT t (k+1) ((wordsD t.d t.n).length - (k+1)):=by rw [hR];exact List.mem_cons_self
      obtain ⟨i,h1,h2,e⟩:=mem_seg hy
      have hne:y.f0≠encW l:=by
        intro hc
        have hi:i<(wordsD t.d t.n).length:=by omega
        rw [(termOf_word hi e).1] at hc
        have hd3:=ht.sz.d3
        have:=encW_inj (fun x hx=>by have:=(word_digits hi).2 x hx;omega) (fun x hx=>by have:=hl.2 x hx;omega) hc
        have h3:=wordsD_at t.d t.n i hi
        rw [this,← hke] at h3
        omega
      rw [if_neg hne,List.append_assoc]
  · have e1:termOf t k=some ⟨encW l,t.vs.getD k zeroF⟩:=by
      unfold termOf
      rw [if_pos c]
      have e4:(wordsA t.d t.n).getD k ByteArray.empty=encW l:=by
        unfold wordsA
        rw [List.getD_eq_getElem?_getD,List.getElem?_map,hwl];rfl
      rw [e4]
    rw [e1]
    simp only [Option.toList_some,List.singleton_append]
    rw [List.getElem?_append_right (Nat.le_refl _),Nat.sub_self]
    simp only [List.getElem?_cons_zero,if_true]
    have e2:(segT t 0 k++(⟨encW l,t.vs.getD k zeroF⟩:S79) :: segT t (k+1) ((wordsD t.d t.n).length - (k+1))).drop ((segT t 0 k).length+1)=segT t (k+1) ((wordsD t.d t.n).length - (k+1)):=by
      rw [← List.drop_drop,List.drop_left];rfl
    rw [e2]
    by_cases cp:(plusM (t.vs.getD k zeroF) a).2=true
    · rw [if_pos cp,if_pos cp,List.append_assoc]
    · rw [if_neg cp,if_neg cp]
end Go.Proofs.Ytaiefdhenikiiaa.Base
namespace Go.Proofs.Ytaiefdhenikiiaa.Base
open Go.RowKit Go.Proofs.YtaiefdhenikiiaaW.PrintWords Go.Proofs.YtaiefdhenikiiaaW.PrintLast Go.Proofs.YtaiefdhenikiiaaW.PrintMore
set_option linter.unusedVariables false
set_option linter.unusedSimpArgs false
theorem wordB_is {d n:Nat} {s:ByteArray} (h:wordB d n s=true) (hd:d≤9):isWd d n s:=by
  unfold wordB at h
  rw [Bool.and_eq_true,List.all_eq_true,decide_eq_true_iff] at h
  obtain ⟨h1,h2⟩:=h
  have hb:∀ b ∈ s.data.toList,48≤b.toNat∧b.toNat<48+d:=fun b hb=>of_decide_eq_true (h1 b hb)
  refine ⟨?_,?_,?_⟩
  · apply ByteArray.ext
    unfold encW decW
    rw [List.map_map]
    have:(s.data.toList.map ((fun i=>UInt8.ofNat (48+i)) ∘ fun b=>b.toNat - 48))=s.data.toList:=by
      conv=>rhs;rw [← List.map_id s.data.toList]
      apply List.map_congr_left
      intro b hb'
      have:=hb b hb'
      simp only [Function.comp,id_eq]
      rw [show 48+(b.toNat - 48)=b.toNat by omega,UInt8.ofNat_toNat]
    rw [this]
  · unfold decW;rw [List.length_map,Array.length_toList]
    have:s.size=s.data.size:=rfl
    omega
  · intro x hx
    unfold decW at hx
    obtain ⟨b,hb',rfl⟩:=List.mem_map.1 hx
    have:=hb b hb'
    show b.toNat - 48<d
    omega
theorem good_okTs {d n:Nat} (hd:d≤9):∀ {l:List S79},goodB d n l=true→okTs d n l∧∀ x ∈ l,x.f1.f0≠0
  | [],_=>⟨fun x hx=>by simp at hx,fun x hx=>by simp at hx⟩
  | [x],h=>by
    simp only [goodB,termB,Bool.and_eq_true,decide_eq_true_eq,bne_iff_ne,Bool.and_true] at h
    refine ⟨fun y hy=>?_,fun y hy=>?_⟩ <;> obtain rfl:=List.mem_singleton.1 hy
    · exact ⟨wordB_is h.1.1 hd,h.1.2⟩
    · exact h.2
  | x :: y :: l,h=>by
    simp only [goodB,Bool.and_eq_true] at h
    obtain ⟨h1,_,h3⟩:=h
    have ih:=good_okTs hd h3
    simp only [termB,Bool.and_eq_true,decide_eq_true_eq,bne_iff_ne,Bool.and_true] at h1
    refine ⟨fun z hz=>?_,fun z hz=>?_⟩ <;> rcases List.mem_cons.1 hz with rfl|hz
    · exact ⟨wordB_is h1.1.1 hd,h1.1.2⟩
    · exact ih.1 z hz
    · exact h1.2
    · exact ih.2 z hz
def numS (d:Nat) (x:S79):Nat:=numN d (decW x.f0)
theorem bef_num {d n:Nat} (hd:d≤9) {x y:S79} (hx:isWd d n x.f0) (hy:isWd d n y.f0):befW x.f0 y.f0=decide (numS d x<numS d y):=by
  conv=>lhs;rw [← hx.1,← hy.1]
  rw [bef_enc d hd _ _ hx.2.2 hy.2.2];rfl
theorem good_sorted {d n:Nat} (hd:d≤9):∀ {l:List S79},goodB d n l=true→l.Pairwise (fun x y=>numS d x<numS d y)
  | [],_=>List.Pairwise.nil
  | [x],_=>List.pairwise_singleton _ _
  | x :: y :: l,h=>by
    have hok:=(good_okTs hd h).1
    simp only [goodB,Bool.and_eq_true] at h
    have ih:=good_sorted hd h.2.2
    have hxy:numS d x<numS d y:=by
      have:=h.2.1
      rw [bef_num hd (hok x List.mem_cons_self).1 (hok y (by simp)).1] at this
      exact of_decide_eq_true this
    refine List.Pairwise.cons (fun z hz=>?_) ih
    rcases List.mem_cons.1 hz with rfl|hz
    · exact hxy
    · exact Nat.lt_trans hxy ((List.pairwise_cons.1 ih).1 z hz)
theorem zero_terms {d n:Nat}:termsT (zeroT d n)=[]:=by
  rw [termsT_seg]
  apply seg_zero
  intro i _ _
  show ((List.replicate (wordsD d n).length zeroF).getD i zeroF).f0=0
  rw [List.getD_eq_getElem?_getD,List.getElem?_replicate]
  split <;> rfl
end Go.Proofs.Ytaiefdhenikiiaa.Base
namespace Go.Proofs.Ytaiefdhenikiiaa.Base
open Go.RowKit Go.Proofs.YtaiefdhenikiiaaW.PrintWords Go.Proofs.YtaiefdhenikiiaaW.PrintLast Go.Proofs.YtaiefdhenikiiaaW.PrintMore
set_option linter.unusedVariables false
set_option linter.unusedSimpArgs false
theorem mem_terms {t:Tb} {x:S79} (h:x ∈ termsT t):∃ l,isD t.d t.n l∧x.f0=encW l∧x.f1=t.val l∧x.f1.f0≠0:=by
  rw [termsT_seg] at h
  obtain ⟨i,_,h2,e⟩:=mem_seg h
  have hi:i<(wordsD t.d t.n).length:=by omega
  obtain ⟨e1,e2,e3⟩:=termOf_word hi e
  refine ⟨_,word_digits hi,e1,?_,e3⟩
  rw [e2];unfold Tb.val;rw [wordsD_at]
theorem Tb.chk_true (t:Tb):t.chk true=t:=by unfold Tb.chk;simp
end Go.Proofs.Ytaiefdhenikiiaa.Base
namespace Go.Proofs.Ytaiefdhenikiiaa.Base
open Go.RowKit Go.Proofs.YtaiefdhenikiiaaW.PrintWords Go.Proofs.YtaiefdhenikiiaaW.PrintLast Go.Proofs.YtaiefdhenikiiaaW.PrintMore
set_option linter.unusedVariables false
set_option linter.unusedSimpArgs false
def cutS (u w:ByteArray):ByteArray × Bool:=if u.size≤w.size∧(w.extract (w.size - u.size) w.size).toList=u.toList then (w.extract 0 (w.size - u.size),true) else (w,false)
theorem cutS_is (u w:ByteArray) (hw:w.size≤1048576):strings_CutSuffix.f w u=some (cutS u w):=by
  unfold strings_CutSuffix.f stringslite_CutSuffix.f stringslite_HasSuffix.f cutS
  by_cases h:u.size≤w.size
  · have e:wrap64 ((w.size:Int) - (u.size:Int))=((w.size - u.size:Nat):Int):=by rw [w64 (by omega) (by omega)];omega
    rw [e]
    simp only [show (w.size:Int)≥(u.size:Int) by omega,show (0:Int)≤((w.size - u.size:Nat):Int) by omega,show ((w.size - u.size:Nat):Int)≤(w.size:Int) by omega,if_true,Option.bind_some,Int.toNat_natCast,h,true_and,beq_iff_eq]
    by_cases c:(w.extract (w.size - u.size) w.size).toList=u.toList
    · simp [c]
    · simp [c]
  · simp only [show ¬ (w.size:Int)≥(u.size:Int) by omega,if_false,Option.bind_some,h,false_and,Bool.false_eq_true]
theorem enc_take (l:List Nat) (i:Nat):(encW l).extract 0 i=encW (l.take i):=by
  rw [extract_enc l 0 i (Nat.zero_le _),List.drop_zero]
theorem isWd_enc {d n:Nat} (hd:d≤3) {l:List Nat} (h:isD d n l):isWd d n (encW l):=by
  have e:=decW_encW l (fun x hx=>by have:=h.2 x hx;omega)
  unfold isWd
  rw [e];exact ⟨rfl,h⟩
theorem cutS_wd {d n:Nat} (hd:d≤3) {u w:ByteArray} (hw:isWd d n w) (h:(cutS u w).2=true):isWd d n (cutS u w).1:=by
  unfold cutS at h ⊢
  split at h
  · next c =>
    rw [if_pos c]
    show isWd d n (w.extract 0 (w.size - u.size))
    have e:w.extract 0 (w.size - u.size)=encW ((decW w).take (w.size - u.size)):=by
      have:=enc_take (decW w) (w.size - u.size)
      rwa [hw.1] at this
    rw [e]
    exact isWd_enc hd (isD_take hw.2 _)
  · cases h
def withoutR (cut:ByteArray→ByteArray × Bool) (D N:Int) (l:List S79) (u:ByteArray):Int × Int × List S79 × Int :=
  if serB D N l=true then (if wordB D.toNat N.toNat u=true then (if (withT cut D.toNat N.toNat l).bad=true then (0,0,[],3) else (D,N,termsT (withT cut D.toNat N.toNat l),0)) else (0,0,[],2)) else (0,0,[],1)
def SmallA (l:List S79) (u:ByteArray):Prop:=l.length≤1048576∧(∀ x ∈ l,x.f0.size≤1048576)∧u.size≤1048576
theorem serB_nat {D N:Int} {l:List S79} (h:serB D N l=true):∃ d n:Nat,D=d∧N=n∧Sz d n∧goodB d n l=true:=by
  unfold serB at h
  rw [Bool.and_eq_true] at h
  obtain ⟨d,n,rfl,rfl,h1,h2⟩:=lvl_nat h.1
  exact ⟨d,n,rfl,rfl,⟨by omega,by omega,by omega⟩,by have:=h.2;rwa [Int.toNat_natCast,Int.toNat_natCast] at this⟩
theorem isBy (D N:Int) (A:Option Addr) (c:Nat) (l:List S79) (hc:l.length≤c) (hl:smallT l):IsBy D N A c l (serB D N l):=by
  intro W hC
  obtain ⟨k,hk⟩:=(ser_impl D N l hl).rounds
  exact qu2_.calls k _ _ _ _ _ _ _ hC hc hk
theorem without_all (w:World) (D N:Int) (A:Option Addr) (c:Nat) (l:List S79) (u:ByteArray) (g B:Nat) (cut:ByteArray→ByteArray × Bool) (hr:Kd.C k79 w A l.length l) (hc:l.length≤c) (hsm:SmallA l u)
    (eg:∀ args w,(callFunc g args).run Try.prog w=.ok (.enter g args) w) (hB:w.cell? ⟨B,0,none⟩=some (.string u)) (hg:CutsBy g B u cut) (hcut:∀ (d n:Nat) (x:ByteArray),d≤3→isWd d n x→(cut x).2=true→isWd d n (cut x).1) :
    Calls Try.prog 87 #[.agg #[.int .i64 D,.int .i64 N,.slice A l.length c],.string u,.func (.func g) #[] #[.pointer (some ⟨B,0,none⟩)]] w (SerRes w (withoutR cut D N l u).1 (withoutR cut D N l u).2.1 (withoutR cut D N l u).2.2.1 (withoutR cut D N l u).2.2.2):=by
  have hl:smallT l:=⟨hsm.1,hsm.2.1⟩
  have hby:=isBy D N A c l hc hl
  unfold withoutR
  cases hs:serB D N l with
  | false =>
    rw [hs] at hby
    rw [if_neg (by simp)]
    exact without_1 w D N A c l u g B hr hby
  | true =>
    rw [hs] at hby
    rw [if_pos rfl]
    obtain ⟨d,n,rfl,rfl,hz,hgd⟩:=serB_nat hs
    obtain ⟨k2,hk2⟩:=(word_is d n (by have:=hz.d3;omega) u (by have:=hsm.2.2;omega)).rounds
    have hok:=(good_okTs (by have:=hz.d3;omega) hgd).1
    simp only [Int.toNat_natCast]
    cases hw:wordB d n u with
    | false =>
      rw [hw] at hk2
      rw [if_neg (by simp)]
      exact without_2 w d n A c l u g B hr hby k2 hk2
    | true =>
      rw [hw] at hk2
      rw [if_pos rfl]
      have h3:=without_3 w d n A c l u g B cut hr ⟨hsm.1,hsm.2.1⟩ hz hby k2 hk2 eg hB hg (fun x hx hcx=>hcut d n _ hz.d3 (hok x hx).1 hcx) hok
      unfold toldT at h3
      cases hb:(withT cut d n l).bad with
      | true=>rw [hb,if_pos rfl] at h3;rw [if_pos rfl];exact h3
      | false =>
        rw [hb,if_neg (by simp)] at h3
        rw [if_neg (by simp)]
        have hlk:=withT_like (cut:=cut) hz l
        rw [show (withT cut d n l).d=d from hlk.1,show (withT cut d n l).n=n from hlk.2.1] at h3
        exact h3
end Go.Proofs.Ytaiefdhenikiiaa.Base
namespace Go.Proofs.Ytaiefdhenikiiaa.Base
open Go.RowKit Go.Proofs.YtaiefdhenikiiaaW.PrintWords Go.Proofs.YtaiefdhenikiiaaW.PrintLast Go.Proofs.YtaiefdhenikiiaaW.PrintMore
set_option linter.unusedVariables false
set_option linter.unusedSimpArgs false
theorem tw_lt {α:Type} (p:α→Bool):∀ (x:List α) (i:Nat) (h:i<(x.takeWhile p).length),∃ hx:i<x.length,p x[i]=true
  | [],i,h=>by simp at h
  | y :: x,i,h=>by
    by_cases c:p y=true
    · rw [List.takeWhile_cons_of_pos c] at h
      cases i with
      | zero=>exact ⟨by simp,by simpa using c⟩
      | succ i =>
        obtain ⟨h1,h2⟩:=tw_lt p x i (by simpa using h)
        exact ⟨by simpa using h1,by simpa using h2⟩
    · rw [List.takeWhile_cons_of_neg c] at h;simp at h
theorem tw_at {α:Type} (p:α→Bool):∀ (x:List α) (h:(x.takeWhile p).length<x.length),p x[(x.takeWhile p).length]=false
  | [],h=>by simp at h
  | y :: x,h=>by
    by_cases c:p y=true
    · have e:(y :: x).takeWhile p=y :: x.takeWhile p:=List.takeWhile_cons_of_pos c
      have h2:(x.takeWhile p).length<x.length:=by rw [e] at h;simpa using h
      have:=tw_at p x h2
      simp only [e,List.length_cons,List.getElem_cons_succ]
      exact this
    · have e:(y :: x).takeWhile p=[]:=List.takeWhile_cons_of_neg c
      simp only [e,List.length_nil,List.getElem_cons_zero]
      simpa using c
theorem tw_le {α:Type} (p:α→Bool) (x:List α):(x.takeWhile p).length≤x.length:=(List.takeWhile_sublist p).length_le
theorem bytes_eq {a b:ByteArray} (h:a.toList=b.toList):a=b:=by
  rw [ByteArray.toList_eq,ByteArray.toList_eq] at h
  exact ByteArray.ext (Array.toList_inj.1 h)
def tellL:Option (List S79)→List S79 × Bool
  | some r=>(r,true)
  | none=>([],false)
theorem put_j2 (x:List S79) (w:ByteArray) (a:S77) (i:Nat) (hx:x.length≤1048576) (hi:i≤x.length) (ha:okF a) (b:Bool) (hb:b=true→∃ h:i<x.length,okF (x[i]).f1) :
    Ev (fun k=>qs_.j2 k x w (i:Int) (x.take i) b a.f0 a.f1)
      (if b=true then (if (plusM (x.getD i z79).f1 a).2=true then (x.take i++(if (plusM (x.getD i z79).f1 a).1.f0=0 then [] else [⟨w,(plusM (x.getD i z79).f1 a).1⟩])++x.drop (i+1),true) else ([],false))
        else (x.take i++(if a.f0=0 then [] else [⟨w,a⟩])++x.drop i,true)):=by
  have ht:(x.take i).length≤1048576:=by rw [List.length_take];omega
  have hd:(x.drop i).length≤1048576:=by rw [List.length_drop];omega
  have hd1:(x.drop (i+1)).length≤1048576:=by rw [List.length_drop];omega
  have ei:wrap64 ((i:Int)+1)=((i+1:Nat):Int):=by rw [w64m (by omega) (by omega)];rfl
  cases b with
  | true =>
    obtain ⟨hlt,hf⟩:=hb rfl
    have hr:rd_T79 x (i:Int)=x[i]:=rd79 x i hlt
    have hg:x.getD i z79=x[i]:=by rw [List.getD_eq_getElem?_getD,List.getElem?_eq_getElem hlt,Option.getD_some]
    rw [hg]
    have hp:=splus_is hf ha
    simp only [if_true]
    refine Ev.step (f:=fun k=>(qa2_.f k (x[i]).f1.f0 (x[i]).f1.f1 a.f0 a.f1).bind fun t=>if t.2.2=true then some (x.take i++(if t.1=0 then [] else [⟨w,⟨t.1,t.2.1⟩⟩])++x.drop (i+1),true) else some ([],false)) (fun k=>?_) (Ev.bind hp ?_)
    · simp only [qs_.j2,if_true]
      rw [if_pos (by omega),if_pos (by omega),hr,ei]
      congr 1
      funext t
      by_cases c:t.2.2=true
      · simp only [if_pos c,qd2_.f,Option.bind_some,beq_iff_eq,Int.toNat_natCast]
        by_cases z:t.1=0
        · simp only [if_pos z,List.append_nil]
          rw [if_pos (by omega),if_pos (by omega),if_pos (by omega)]
        · simp only [if_neg z]
          rw [if_pos (by omega),if_pos (by omega),if_pos (by omega),if_pos (by rw [List.length_append,List.length_singleton];omega)]
      · simp only [if_neg c]
    · unfold toldM
      cases hc:(plusM (x[i]).f1 a).2 with
      | true =>
        simp only [if_true]
        exact Ev.now _
      | false =>
        simp only [Bool.false_eq_true,if_false]
        exact Ev.now _
  | false =>
    simp only [Bool.false_eq_true,if_false]
    have h0:(0:Int)≤(i:Int):=by omega
    have h1:(i:Int)≤(x.length:Int):=by omega
    by_cases z:a.f0=0
    · have h2:(x.take i).length+(x.drop i).length<4398046511104:=by omega
      rw [if_pos z,List.append_nil]
      have e:∀ k,qs_.j2 (k+1) x w (i:Int) (x.take i) false a.f0 a.f1=some (x.take i++x.drop i,true):=by
        intro k
        simp only [qs_.j2,Bool.false_eq_true,if_false]
        unfold qd2_.f
        rw [z,Option.bind_some,if_pos (by rfl),if_pos h0,if_pos h1,Int.toNat_natCast,Option.bind_some,if_pos h2]
      exact Ev.step e (Ev.now _)
    · have h2:(x.take i).length<4398046511104:=by omega
      have h3:(x.take i++[(⟨w,⟨a.f0,a.f1⟩⟩:S79)]).length+(x.drop i).length<4398046511104:=by rw [List.length_append,List.length_singleton];omega
      rw [if_neg z]
      have e:∀ k,qs_.j2 (k+1) x w (i:Int) (x.take i) false a.f0 a.f1=some (x.take i++[⟨w,a⟩]++x.drop i,true):=by
        intro k
        simp only [qs_.j2,Bool.false_eq_true,if_false]
        unfold qd2_.f
        rw [Option.bind_some,if_neg (by simpa using z),if_pos h2,Option.bind_some,if_pos h0,if_pos h1,Int.toNat_natCast,Option.bind_some,if_pos h3]
      exact Ev.step e (Ev.now _)
theorem put_is (x:List S79) (w:ByteArray) (a:S77) (hx:x.length≤1048576) (hf:∀ y ∈ x,okF y.f1) (ha:okF a):Ev (fun k=>qs_.f k x w a.f0 a.f1) (tellL (putL x w a)):=by
  have hle:putAt x w≤x.length:=tw_le _ x
  have hj1:Ev (fun k=>qs_.j1 k x w ((putAt x w:Nat):Int) a.f0 a.f1) (tellL (putL x w a)):=by
    have key:tellL (putL x w a)=(if (match x[putAt x w]? with|some y=>decide (y.f0=w)|none=>false)=true then (if (plusM (x.getD (putAt x w) z79).f1 a).2=true then (x.take (putAt x w)++(if (plusM (x.getD (putAt x w) z79).f1 a).1.f0=0 then [] else [⟨w,(plusM (x.getD (putAt x w) z79).f1 a).1⟩])++x.drop (putAt x w+1),true) else ([],false))
        else (x.take (putAt x w)++(if a.f0=0 then [] else [⟨w,a⟩])++x.drop (putAt x w),true)):=by
      unfold putL
      rw [List.getD_eq_getElem?_getD]
      cases hy:x[putAt x w]? with
      | none=>simp [tellL]
      | some y =>
        simp only [Option.getD_some]
        by_cases c:y.f0=w
        · simp only [if_pos c,decide_eq_true c,if_true]
          by_cases c2:(plusM y.f1 a).2=true
          · simp only [if_pos c2];rfl
          · simp only [if_neg c2];rfl
        · simp only [if_neg c,decide_eq_false c,Bool.false_eq_true,if_false];rfl
    rw [key]
    have h2:=put_j2 x w a (putAt x w) hx hle ha (match x[putAt x w]? with|some y=>decide (y.f0=w)|none=>false) (fun hb=>by
      cases hy:x[putAt x w]? with
      | none=>rw [hy] at hb;cases hb
      | some y =>
        obtain ⟨h,e⟩:=List.getElem?_eq_some_iff.1 hy
        exact ⟨h,hf _ (List.getElem_mem h)⟩)
    refine Ev.step (fun k=>?_) h2
    simp only [qs_.j1,Option.bind_some,Int.toNat_natCast,List.length_nil,List.nil_append]
    have ht:(x.take (putAt x w)).length≤1048576:=by rw [List.length_take];omega
    rw [if_pos (by omega),if_pos (by omega),if_pos (by omega)]
    by_cases c:putAt x w<x.length
    · rw [if_pos (by omega),rd79 x _ c,List.getElem?_eq_getElem c]
      have e:((x[putAt x w]).f0.toList==w.toList)=decide ((x[putAt x w]).f0=w):=by
        rw [Bool.eq_iff_iff,beq_iff_eq,decide_eq_true_iff]
        exact ⟨bytes_eq,fun h=>by rw [h]⟩
      rw [e]
    · rw [if_neg (by omega),List.getElem?_eq_none (by omega)]
  have loop:∀ (m j:Nat),j+m=putAt x w→Ev (fun k=>qs_.l0 k x w (j:Int) a.f0 a.f1) (tellL (putL x w a)):=by
    intro m
    induction m with
    | zero =>
      intro j hj
      obtain rfl:j=putAt x w:=by omega
      refine Ev.step (fun k=>?_) hj1
      simp only [qs_.l0]
      by_cases c:putAt x w<x.length
      · have hn:befW (x[putAt x w]).f0 w=false:=tw_at (fun y:S79=>befW y.f0 w) x c
        rw [if_pos (by omega),if_pos (by omega),rd79 x _ c,sbef_is,hn]
        simp only [Option.bind_some,Bool.false_eq_true,if_false]
      · rw [if_neg (by omega)]
    | succ m ih =>
      intro j hj
      obtain ⟨hjl,hbj⟩:=tw_lt (fun y:S79=>befW y.f0 w) x j (by show j<putAt x w;omega)
      refine Ev.step (fun k=>?_) (ih (j+1) (by omega))
      simp only [qs_.l0]
      rw [if_pos (by omega),if_pos (by omega),rd79 x j hjl,sbef_is,hbj,w64m (x:=(j:Int)+1) (by omega) (by omega)]
      simp only [Option.bind_some,if_true]
      rfl
  exact loop (putAt x w) 0 (by omega)
end Go.Proofs.Ytaiefdhenikiiaa.Base
namespace Go.Proofs.Ytaiefdhenikiiaa.Base
open Go.RowKit Go.Proofs.YtaiefdhenikiiaaW.PrintWords Go.Proofs.YtaiefdhenikiiaaW.PrintLast Go.Proofs.YtaiefdhenikiiaaW.PrintMore
set_option linter.unusedVariables false
set_option linter.unusedSimpArgs false
structure Cuts (cut:ByteArray→ByteArray × Bool):Prop where
  wd:∀ (d n:Nat) (x:ByteArray),d≤3→isWd d n x→(cut x).2=true→isWd d n (cut x).1
  inj:∀ v w:ByteArray,(cut v).2=true→(cut w).2=true→(cut v).1=(cut w).1→v=w
theorem addW_zero (O:Tb) (q:List Nat) (a:S77) (h:O.val q=zeroF) (ha:okF a):O.addW q a=O.put (numN O.d q) a:=by
  unfold Tb.addW Tb.add
  unfold Tb.val at h
  rw [h,plus_zero ha,Tb.chk_true]
  rfl
theorem with_succ (cut:ByteArray→ByteArray × Bool) (d n:Nat) (l:List S79) (i:Nat) (h:i<l.length):withT cut d n (l.take (i+1))=withStep cut (withT cut d n (l.take i)) l[i]:=by
  rw [List.take_succ_eq_append_getElem h,withT,List.foldl_append];rfl
theorem with_good {cut:ByteArray→ByteArray × Bool} (hc:Cuts cut) {d n:Nat} (hs:Sz d n) (l:List S79) (hok:okTs d n l) (hp:l.Pairwise (fun x y=>numS d x<numS d y)):∀ i,i≤l.length →
    (withT cut d n (l.take i)).bad=false∧(∀ q,isD d n q→((withT cut d n (l.take i)).val q).f0≠0→∃ j,∃ h:j<l.length,j<i∧cut (l[j]).f0=(encW q,true)):=by
  have hd3:=hs.d3
  intro i
  induction i with
  | zero =>
    intro _
    refine ⟨rfl,fun q hq h=>?_⟩
    exfalso
    apply h
    show ((zeroT d n).vs.getD (numN d q) zeroF).f0=0
    have:(zeroT d n).vs.getD (numN d q) zeroF=zeroF:=by
      show (List.replicate _ zeroF).getD _ zeroF=zeroF
      rw [List.getD_eq_getElem?_getD,List.getElem?_replicate]
      split <;> rfl
    rw [this];rfl
  | succ i ih =>
    intro hi
    obtain ⟨hb,hv⟩:=ih (by omega)
    have hlt:i<l.length:=hi
    rw [with_succ cut d n l i hlt]
    have hlk:=withT_like (cut:=cut) hs (l.take i)
    obtain ⟨O,hO⟩:∃ O,O=withT cut d n (l.take i):=⟨_,rfl⟩
    rw [← hO] at hb hv hlk ⊢
    have hOd:O.d=d:=hlk.1
    have hOn:O.n=n:=hlk.2.1
    obtain ⟨hw,hf⟩:=hok l[i] (List.getElem_mem hlt)
    unfold withStep
    cases c:(cut (l[i]).f0).2 with
    | false =>
      rw [if_neg (by simp)]
      refine ⟨hb,fun q hq h=>?_⟩
      obtain ⟨j,h1,h2,h3⟩:=hv q hq h
      exact ⟨j,h1,by omega,h3⟩
    | true =>
      rw [if_pos rfl]
      have hq0:=hc.wd d n _ hd3 hw c
      obtain ⟨q0,hq⟩:∃ q0,q0=decW (cut (l[i]).f0).1:=⟨_,rfl⟩
      have henc:encW q0=(cut (l[i]).f0).1:=by rw [hq];exact hq0.1
      have hqD:isD d n q0:=by rw [hq];exact hq0.2
      rw [← hq]
      have hz:O.val q0=zeroF:=by
        apply okF_zero (hlk.2.2.val _)
        apply Classical.byContradiction
        intro hne
        obtain ⟨j,h1,h2,h3⟩:=hv q0 hqD hne
        have he:=hc.inj (l[j]).f0 (l[i]).f0 (by rw [h3]) c (by rw [h3,henc])
        have h4:=List.pairwise_iff_getElem.1 hp j i h1 hlt h2
        unfold numS at h4
        rw [he] at h4
        exact Nat.lt_irrefl _ h4
      have hk:numN O.d q0<O.vs.length:=hlk.2.2.lt (by rw [hOd,hOn];exact hqD)
      rw [addW_zero O q0 _ hz hf]
      refine ⟨hb,fun q hqd h=>?_⟩
      have e1:(O.put (numN O.d q0) (l[i]).f1).val q=if numN d q=numN d q0 then (l[i]).f1 else O.val q:=by
        unfold Tb.val
        have e2:(O.put (numN O.d q0) (l[i]).f1).d=O.d:=rfl
        rw [e2,put_getD O _ hk,hOd]
      rw [e1] at h
      by_cases e:numN d q=numN d q0
      · have:=numN_inj d q q0 hqd.2 hqD.2 e
        refine ⟨i,hlt,by omega,?_⟩
        rw [this,henc,← c]
      · rw [if_neg e] at h
        obtain ⟨j,h1,h2,h3⟩:=hv q hqd h
        exact ⟨j,h1,by omega,h3⟩
theorem with_put {cut:ByteArray→ByteArray × Bool} (hc:Cuts cut) {d n:Nat} (hs:Sz d n) (l:List S79) (hok:okTs d n l) (hp:l.Pairwise (fun x y=>numS d x<numS d y)) (i:Nat) (hlt:i<l.length) (c:(cut (l[i]).f0).2=true) :
    putL (termsT (withT cut d n (l.take i))) (cut (l[i]).f0).1 (l[i]).f1=some (termsT (withT cut d n (l.take (i+1)))):=by
  have hd3:=hs.d3
  obtain ⟨hb,hv⟩:=with_good hc hs l hok hp i (by omega)
  rw [with_succ cut d n l i hlt]
  have hlk:=withT_like (cut:=cut) hs (l.take i)
  obtain ⟨O,hO⟩:∃ O,O=withT cut d n (l.take i):=⟨_,rfl⟩
  rw [← hO] at hb hv hlk ⊢
  obtain ⟨hw,hf⟩:=hok l[i] (List.getElem_mem hlt)
  have hq0:=hc.wd d n _ hd3 hw c
  have hqD:isD O.d O.n (decW (cut (l[i]).f0).1):=by rw [hlk.1,hlk.2.1];exact hq0.2
  have hz:O.val (decW (cut (l[i]).f0).1)=zeroF:=by
    apply okF_zero (hlk.2.2.val _)
    apply Classical.byContradiction
    intro hne
    obtain ⟨j,h1,h2,h3⟩:=hv _ hq0.2 hne
    have he:=hc.inj (l[j]).f0 (l[i]).f0 (by rw [h3]) c (by rw [h3];exact hq0.1)
    have h4:=List.pairwise_iff_getElem.1 hp j i h1 hlt h2
    unfold numS at h4
    rw [he] at h4
    exact Nat.lt_irrefl _ h4
  have h:=putL_terms hlk.2.2 hqD hf
  rw [hz,plus_zero hf,if_pos rfl,hq0.1] at h
  unfold withStep
  rw [if_pos c,addW_zero O _ _ hz hf]
  exact h
theorem terms_small {d n:Nat} {t:Tb} (h:Like t (zeroT d n)) (hs:Sz d n):(termsT t).length≤1048576∧∀ y ∈ termsT t,okF y.f1:=by
  refine ⟨?_,fun y hy=>?_⟩
  · have h1:=termsN_len t (wordsD t.d t.n).length
    have h2:=wordsD_small d n hs.d3 hs.n8
    have e1:t.d=d:=h.1
    have e2:t.n=n:=h.2.1
    unfold termsT
    rw [e1,e2] at h1 ⊢
    omega
  · obtain ⟨q,_,_,e,_⟩:=mem_terms hy
    rw [e];exact h.2.2.val q
theorem split_at (v:ByteArray) (i:Nat) (h:i≤v.size):v.extract 0 i++v.extract i v.size=v:=by
  rw [ByteArray.extract_append_extract,Nat.zero_min,Nat.max_eq_right h,ByteArray.extract_zero_size]
theorem cutsS (u:ByteArray):Cuts (cutS u):=by
  refine ⟨fun d n x hd hx hc=>cutS_wd hd hx hc,fun v w hv hw h=>?_⟩
  unfold cutS at hv hw h
  split at hv
  · next c1 =>
    split at hw
    · next c2 =>
      rw [if_pos c1,if_pos c2] at h
      have h3:v.extract (v.size - u.size) v.size=w.extract (w.size - u.size) w.size:=bytes_eq (c1.2.trans c2.2.symm)
      have h4:v.extract 0 (v.size - u.size)=w.extract 0 (w.size - u.size):=h
      rw [← split_at v (v.size - u.size) (by omega),← split_at w (w.size - u.size) (by omega),h3,h4]
    · cases hw
  · cases hv
section
variable {d n:Nat} (hs:Sz d n) (u:ByteArray) (hu:u.size≤1048576) (l:List S79) (hl:smallT l) (hok:okTs d n l) (hp:l.Pairwise (fun x y=>numS d x<numS d y)) (D N:Int)
include hs hu hl hok hp
theorem swS_loop (m:Nat):∀ i:Nat,i+m=l.length→Ev (fun k=>qp_.l0 k u true (i:Int) D N l D N (termsT (withT (cutS u) d n (l.take i)))) (D,N,termsT (withT (cutS u) d n l)):=by
  induction m with
  | zero =>
    intro i hi
    obtain rfl:i=l.length:=by omega
    refine Ev.step (f:=fun _=>some (D,N,termsT (withT (cutS u) d n l))) (fun k=>?_) (Ev.now _)
    simp only [qp_.l0]
    rw [if_neg (by omega),List.take_length]
  | succ m ih =>
    intro i hi
    have hlt:i<l.length:=by omega
    have hlen:=hl.1
    have ih:=ih (i+1) (by omega)
    have hxs:=hl.2 l[i] (List.getElem_mem hlt)
    have hf:=(hok l[i] (List.getElem_mem hlt)).2
    have hsm:=terms_small (withT_like (cut:=cutS u) hs (l.take i)) hs
    have hput:=with_put (cutsS u) hs l hok hp i hlt
    have hsucc:=with_succ (cutS u) d n l i hlt
    obtain ⟨x,hx⟩:∃ x,x=l[i]:=⟨_,rfl⟩
    rw [← hx] at hxs hf hput hsucc
    obtain ⟨L,hL⟩:∃ L,L=termsT (withT (cutS u) d n (l.take i)):=⟨_,rfl⟩
    rw [← hL] at hsm hput ⊢
    have hr:rd_T79 l (i:Int)=x:=by rw [rd79 l i hlt,hx]
    have ei:wrap64 ((i:Int)+1)=((i+1:Nat):Int):=by rw [w64m (by omega) (by omega)];rfl
    have es:wrap64 ((x.f0.size:Int) - (u.size:Int))=(x.f0.size:Int) - (u.size:Int):=w64m (by omega) (by omega)
    have same:(cutS u x.f0).2=false→Ev (fun k=>qp_.l0 k u true ((i+1:Nat):Int) D N l D N L) (D,N,termsT (withT (cutS u) d n l)):=by
      intro hc
      have e:withT (cutS u) d n (l.take (i+1))=withT (cutS u) d n (l.take i):=by rw [hsucc];unfold withStep;rw [if_neg (by rw [hc];simp)]
      rw [e,← hL] at ih
      exact ih
    refine Ev.step (f:=fun k=>qp_.j1 k u true (i:Int) x.f0 ((x.f0.size:Int) - (u.size:Int)) false D N l D N L) (fun k=>?_) ?_
    · simp only [qp_.l0]
      rw [if_pos (by omega),if_pos (by omega),hr,es]
      simp only [if_true]
      split <;> rfl
    · by_cases h:u.size≤x.f0.size
      · have en:(x.f0.size:Int) - (u.size:Int)=((x.f0.size - u.size:Nat):Int):=by omega
        by_cases c:(x.f0.extract (x.f0.size - u.size) x.f0.size).toList=u.toList
        · have hc:cutS u x.f0=(x.f0.extract 0 (x.f0.size - u.size),true):=by unfold cutS;rw [if_pos ⟨h,c⟩]
          rw [hc] at hput
          have hput:=hput rfl
          have hev:=put_is L (x.f0.extract 0 (x.f0.size - u.size)) x.f1 hsm.1 hsm.2 hf
          rw [hput] at hev
          refine Ev.step (f:=fun k=>(qs_.f k L (x.f0.extract 0 (x.f0.size - u.size)) x.f1.f0 x.f1.f1).bind fun t=>qp_.l0 k u true ((i+1:Nat):Int) D N l D N t.1) (fun k=>?_) (Ev.bind hev ?_)
          · simp only [qp_.j1,Bool.false_eq_true,if_false]
            rw [en,if_pos (by omega)]
            simp only [if_true]
            rw [if_pos (by omega),if_pos (by omega),Int.toNat_natCast,if_pos c,if_pos (by omega),if_pos (by omega),hr,ei]
          · exact ih
        · have hc:cutS u x.f0=(x.f0,false):=by unfold cutS;rw [if_neg (fun hh=>c hh.2)]
          refine Ev.step (fun k=>?_) (same (by rw [hc]))
          simp only [qp_.j1,Bool.false_eq_true,if_false]
          rw [en,if_pos (by omega)]
          simp only [if_true]
          rw [if_pos (by omega),if_pos (by omega),Int.toNat_natCast,if_neg c,ei]
      · have hc:cutS u x.f0=(x.f0,false):=by unfold cutS;rw [if_neg (fun hh=>h hh.1)]
        refine Ev.step (fun k=>?_) (same (by rw [hc]))
        simp only [qp_.j1,Bool.false_eq_true,if_false]
        rw [if_neg (by omega),ei]
end
theorem sword_both {D N:Int} {l:List S79} {u:ByteArray} (hl:smallT l) (hu:u.size≤1048576):Ev (fun k=>qo2_.f k D N l u) (if serB D N l=true then (if wordB D.toNat N.toNat u=true then 0 else 2) else 1):=by
  unfold qo2_.f
  refine Ev.bind (ser_spec D N l hl) ?_
  cases hs:serB D N l with
  | false=>simp only [Bool.false_eq_true,if_false];exact Ev.now _
  | true =>
    simp only [if_true]
    obtain ⟨d,n,rfl,rfl,hz,_⟩:=serB_nat hs
    have hd3:=hz.d3
    refine Ev.bind (sword_is d (by omega) u (by omega)) ?_
    simp only [Int.toNat_natCast]
    cases cw:lettersB d u with
    | false =>
      have:wordB d n u=false:=by show (lettersB d u && _)=false;rw [cw];rfl
      simp only [this,Bool.false_eq_true,if_false];exact Ev.now _
    | true =>
      simp only [if_true]
      by_cases c:(u.size:Int) > (n:Int)
      · have:wordB d n u=false:=by unfold wordB;rw [decide_eq_false (by omega),Bool.and_false]
        simp only [this,if_pos c,Bool.false_eq_true,if_false];exact Ev.now _
      · have:wordB d n u=true:=by show (lettersB d u && _)=true;rw [cw,decide_eq_true (by omega)];rfl
        simp only [this,if_neg c,if_true];exact Ev.now _
theorem swS (D N:Int) (l:List S79) (u:ByteArray) (hs:serB D N l=true) (hl:smallT l) (hu:u.size≤1048576):(withT (cutS u) D.toNat N.toNat l).bad=false∧Ev (fun k=>qp_.f k D N l u true) (D,N,termsT (withT (cutS u) D.toNat N.toNat l)):=by
  obtain ⟨d,n,rfl,rfl,hz,hg⟩:=serB_nat hs
  have hd3:=hz.d3
  have hok:=(good_okTs (by omega) hg).1
  have hp:=good_sorted (d:=d) (n:=n) (by omega) hg
  simp only [Int.toNat_natCast]
  have h1:=(with_good (cutsS u) hz l hok hp l.length (Nat.le_refl _)).1
  rw [List.take_length] at h1
  refine ⟨h1,?_⟩
  have h2:=swS_loop hz u hu l hl hok hp (d:Int) (n:Int) l.length 0 (by omega)
  have e0:termsT (withT (cutS u) d n (l.take 0))=[]:=zero_terms
  rw [e0] at h2
  exact h2
end Go.Proofs.Ytaiefdhenikiiaa.Base
namespace Go.Proofs.Ytaiefdhenikiiaa.Base
open Go.RowKit Go.Proofs.YtaiefdhenikiiaaW.PrintWords Go.Proofs.YtaiefdhenikiiaaW.PrintLast Go.Proofs.YtaiefdhenikiiaaW.PrintMore
attribute [local go_sem] max2_int qv1_ max_two min_two max_three min_three max_four min_four Go.Proofs.YtaiefdhenikiiaaZ.qe1_   -- for this text's walks alone
set_option linter.unusedVariables false
set_option linter.unusedSimpArgs false
def qy1_.f (a0_0:Int) (a0_1:Int) (l0_2:List S79) (a1:ByteArray):Option (Int × Int × (List S79) × Int):=if l0_2.length≤1048576∧(∀ x ∈ l0_2,x.f0.size≤1048576)∧a1.size≤1048576 then some (withoutR (cutS a1) a0_0 a0_1 l0_2 a1) else none
theorem cutsS90 (B:Nat) (u:ByteArray):CutsBy 90 B u (cutS u):=by
 intro W s hs hc
 go_enter Try.func90,Try.ntmps90
 go_wp2_with (go_at_call 91;refine (strings_CutSuffix.calls _ _ _ _ _ (show strings_CutSuffix.f s u=some ((cutS u s).1,(cutS u s).2) from cutS_is u s hs)).mono ?_;rintro e w1 ⟨rfl,hd⟩)
 go_returns
 exact ⟨rfl,hd.below⟩
set_option maxHeartbeats 8000000 in
set_option maxRecDepth 100000 in
theorem qy1_.calls (a0_0:Int) (a0_1:Int) (A0_2:Option Addr) (c0_2:Nat) (l0_2:List (S79)) (a1:ByteArray) (r1:Int) (r2:Int) (r3:List (S79)) (r4:Int) (w:World) (hr0_2:Kd.C k79 w A0_2 l0_2.length l0_2) (hc0_2:l0_2.length≤c0_2) (h:qy1_.f a0_0 a0_1 l0_2 a1=some (r1,r2,r3,r4)) :
  Calls Try.prog 41 #[.agg #[.int .i64 a0_0,.int .i64 a0_1,.slice A0_2 l0_2.length c0_2],.string a1] w fun e w'=>∃ v2_:Value,e=.returned (.tuple #[.agg #[.int .i64 r1,.int .i64 r2,v2_],.int .i64 r4])∧Kd.R k79 79 w' w.heap.size (fun _=>True) v2_ r3∧Below w.heap.size w w':=by
 unfold qy1_.f at h
 split at h
 rotate_left
 ·cases h
 rename_i hsm
 have h:=Option.some.inj h
 have hu:=Try.underlying38
 have HR:=aK hr0_2
 have HC:=aK hc0_2
 have HSm:=aK (show SmallA l0_2 a1 from hsm)
 have HH:=aK h
 have HE:=aK (enters_at2 Try.func90 (by kernel_rfl) rfl)
 clear hr0_2 hc0_2 hsm h
 go_enter Try.func41,Try.ntmps41
 go_wp2_with (go_at_call 87;refine (without_all _ a0_0 a0_1 A0_2 c0_2 l0_2 a1 90 (w.heap.size+1) (cutS a1) (Kd.qn2_ HR.out (qb_ (qb_ (qb_ (Below.refl _ _) _) _) _)) HC.out HSm.out HE.out (qi_ (old_at (new_at (by simp))) 0) (cutsS90 _ _) (fun d n x hd hx hc=>cutS_wd hd hx hc)).mono ?_;rintro e w1 ⟨v,rfl,hv,hb⟩;obtain ⟨A1,c1,rfl⟩:=Kd.qq2_ hv;have HB:=aK (show Below w.heap.size w w1 from qm_ (qb_ (qb_ (qb_ (Below.refl _ _) _) _) _) hb);have HV:=aK (Kd.qt2_ hv (qk_ (qb_ (qb_ (qb_ (Below.refl w.heap.size w) _) _) _)));have S:w1.heap[w.heap.size+2]?=some (.cells #[.int .i64 0,.int .i64 0,.slice none 0 0] 38 (0,0)):=ql_ (new_at (by simp)) hb;have x0:w1.cell? ⟨w.heap.size+2,0,none⟩=some (.int .i64 0):=qi_ S 0;have x1:w1.cell? ⟨w.heap.size+2,1,none⟩=some (.int .i64 0):=qi_ S 1;have x2:w1.cell? ⟨w.heap.size+2,2,none⟩=some (.slice none 0 0):=qi_ S 2;have f0:=qh_ S 0;have f1:=qh_ S 1;have f2:=qh_ S 2;have HS:=aK S;clear S hv hb)
 refine bodyPost_ret (results_ct rfl _ _ (w.heap.size+2) 38 _ (0,0) _ rfl (qj2_ (qj2_ (qj2_ HS.out 0 _) 1 _) 2 _) hu rfl (by kernel_rfl)) rfl ?_
 rw [HH.out] at HV ⊢
 refine ⟨_,rfl,?_,((HB.out.setCell (Nat.le_add_right _ 2) _).setCell (Nat.le_add_right _ 2) _).setCell (Nat.le_add_right _ 2) _⟩
 exact Kd.R_set (Kd.R_set (Kd.R_set HV.out HS.out (by decide) 0 _) (qj2_ HS.out 0 _) (by decide) 1 _) (qj2_ (qj2_ HS.out 0 _) 1 _) (by decide) 2 _
end Go.Proofs.Ytaiefdhenikiiaa.Base
