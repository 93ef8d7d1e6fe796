/- Texts that the proof of FnExactDynkinMap needs, part 10. No condition. -/
import Derived.Test.YtaiefdhenikiiaaMFnExactDynkinMap9
import Derived.Deep.RegionLaw
namespace Go.Proofs.Ytaiefdhenikiiaa.Base
open Go.RowKit Go.Proofs.YtaiefdhenikiiaaW.PrintWords Go.Proofs.YtaiefdhenikiiaaW.PrintLast Go.Proofs.YtaiefdhenikiiaaW.PrintMore
set_option linter.unusedVariables false
set_option linter.unusedSimpArgs false
/-- A series that is a variable in block b. -/
def SrAt (W:World) (b:Nat) (d n:Int) (v:Value):Prop:=W.heap[b]?=some (.cells #[.int .i64 d,.int .i64 n,v] 38 (0,0))
section
variable {W W' w w':World} {b:Nat} {d n:Int} {v:Value}
theorem SrAt.c0 (H:SrAt W b d n v):W.cell? ⟨b,0,none⟩=some (.int .i64 d):=qg_ H 0
theorem SrAt.c1 (H:SrAt W b d n v):W.cell? ⟨b,1,none⟩=some (.int .i64 n):=qg_ H 1
theorem SrAt.c2 (H:SrAt W b d n v):W.cell? ⟨b,2,none⟩=some v:=qg_ H 2
theorem SrAt.lt (H:SrAt W b d n v):b < W.heap.size:=blk_lt H
theorem SrAt.below (H:SrAt W b d n v) (hb:Below W.heap.size W W'):SrAt W' b d n v:=qm_ H hb
theorem SrAt.alloc (H:SrAt W b d n v) (o:Obj):SrAt (W.alloc o) b d n v:=old_at H
theorem SrAt.drew (H:SrAt W b d n v):SrAt W.drew b d n v:=H
theorem SrAt.drewN (H:SrAt W b d n v) (m:Nat):SrAt (W.drewN m) b d n v:=H
theorem SrAt.far (H:SrAt W b d n v) {p:Addr} (h:b ≠ p.block) (u:Value):SrAt (W.setCell p u) b d n v:=qk1_ H h u
theorem SrAt.put (H:SrAt W b d n v) (u:Value):SrAt (W.setCell ⟨b,2,none⟩ u) b d n u:=qt_ H 2 u
theorem SrAt.grown (H:SrAt W b d n v) {row:Option Nat} (hg:W.grownBy W' row) (hne:some b ≠ row):SrAt W' b d n v:=qj3_ H hg hne
end
/-- One term more. -/
def termStep (t:Tb) (acc:List S79) (i:Nat):List S79:=if (t.vs.getD i zeroF).f0 ≠ 0 then acc ++ [⟨(wordsA t.d t.n).getD i ByteArray.empty,t.vs.getD i zeroF⟩] else acc
def termsN (t:Tb) (n:Nat):List S79:=(List.range n).foldl (termStep t) []
def termsT (t:Tb):List S79:=termsN t (wordsD t.d t.n).length
theorem termsN_succ (t:Tb) (n:Nat):termsN t (n+1)=termStep t (termsN t n) n:=by unfold termsN;rw [List.range_succ,List.foldl_append];rfl
theorem termsN_len (t:Tb) (n:Nat):(termsN t n).length≤n:=by
  induction n with
  | zero=>exact Nat.le_refl _
  | succ n ih =>
    rw [termsN_succ]
    unfold termStep
    split
    · rw [List.length_append,List.length_singleton];omega
    · omega
/-- A row of terms that the call made. -/
abbrev TermsR (W:World) (base:Nat) (v:Value) (l:List S79):Prop:=Kd.R k79 79 W base (fun _=>True) v l
theorem WordsAt.grown {w w':World} {B c:Nat} {A:Option Addr} {ws:List ByteArray} (h:WordsAt w B A c ws) {base:Nat} {v:Value} {l:List S79} (hr:TermsR w base v l) (hg:w.grownBy w' v.ownBlock):WordsAt w' B A c ws :=
  Kd.R_over' h (Kd.R_typed hr) (by decide) hg
theorem info79':(Try.prog.info? 79).map (fun i=>(i.zero,i.size,i.bytes))=some (some (.agg #[(.string ⟨#[]⟩),(.int .i64 0),(.int .i64 0)]),3,32):=by kernel_rfl
set_option maxHeartbeats 16000000 in
set_option maxRecDepth 100000 in
theorem series_ (w:World) {g h:Nat} {t:Tb} (H:TabAt w g h t) (ht:t.Ok) :
    Calls Try.prog 164 #[.pointer (some ⟨g,0,none⟩)] w fun e w'=>∃ v:Value,e=.returned (.agg #[.int .i64 (t.d:Int),.int .i64 (t.n:Int),v])∧TermsR w' w.heap.size v (termsT t)∧Below w.heap.size w w':=by
  have hu:=Try.underlying38
  have hu2:=Try.underlying79
  have hu3:=Try.underlying77
  have h0:=H.c0
  have h1:=H.c1
  have n0:=World.new_ne w _ h0
  have n2:=H.ltg
  have HT:=Aside0.mk H
  have OT:=Aside0.mk ht
  have n1:w.heap.size+1 ≠ g:=by omega
  have hsm:(wordsD t.d t.n).length≤19683:=wordsD_small _ _ ht.sz.d3 ht.sz.n8
  have HSM:=Aside0.mk hsm
  clear H ht hsm
  go_enter Try.func164,Try.ntmps164
  go_wp2
  go_region_held3 (fun w'=>w'.cell? ⟨g,0,none⟩=some (.int .i64 (t.d:Int))∧w'.cell? ⟨g,1,none⟩=some (.int .i64 (t.n:Int))) (go_keep) (fail)
  go_wp2
  go_region_held3 (fun w'=>w'.cell? ⟨g,0,none⟩=some (.int .i64 (t.d:Int))∧w'.cell? ⟨g,1,none⟩=some (.int .i64 (t.n:Int))) (go_keep) (first
    | (go_at_call 175;refine (allWords_ _ t.d t.n OT.out.sz).mono ?_;rintro e w3 ⟨A,c,rfl,W,hb⟩;have T3:TabAt w3 g h t:=TabAt.below (by repeat (first|(with_reducible exact HT.out)|(with_reducible refine TabAt.drewN ?_ _)|(with_reducible refine TabAt.drew ?_)|(with_reducible refine TabAt.alloc ?_ _))) hb;have HW:=Aside0.mk W;have HS2:=Aside0.mk (show SrAt w3 w.heap.size 0 0 (.slice none 0 0) from qm_ (by repeat' (first|(with_reducible refine drewN_at ?_)|(with_reducible refine drew_at ?_)|((with_reducible refine new_at ?_);simp;done)|(with_reducible refine old_at ?_)|((with_reducible refine qk1_ ?_ ?_ _);rotate_left;(focus (first|(simp;done)|(simp;omega)))))) hb);have HS3:=Aside0.mk (show SrAt w3 (w.heap.size+1) t.d t.n (.slice none 0 0) from qm_ (by repeat' (first|(with_reducible refine drewN_at ?_)|(with_reducible refine drew_at ?_)|((with_reducible refine new_at ?_);simp;done)|(with_reducible refine old_at ?_)|((with_reducible refine qk1_ ?_ ?_ _);rotate_left;(focus (first|(simp;done)|(simp;omega)))))) hb);have HB:=Aside0.mk (show Below w.heap.size w w3 from qj_ (by repeat (first|(with_reducible exact Below.refl _ _)|(with_reducible refine qc_ ?_)|(with_reducible refine qa_ ?_ _)|(with_reducible refine qb_ ?_ _))) hb);have z0:=T3.c0;have z1:=T3.c1;clear T3 W hb))
  go_wp2
  clear h0 h1 z0 z1 n0 n1 n2
  have HWL:=Aside0.mk (wordsA_len t.d t.n)
  go_loopg [25] (wordsD t.d t.n).length (fun gg v25 wr=>∃ (i:Nat) (v:Value),i≤(wordsD t.d t.n).length∧(wordsD t.d t.n).length - i≤gg∧v25=.int .i64 i∧Aside0 (Below w.heap.size w wr)∧Aside0 (SrAt wr w.heap.size 0 0 (.slice none 0 0))∧Aside0 (SrAt wr (w.heap.size+1) t.d t.n v)∧Aside0 (TermsR wr w.heap.size v (termsN t i))∧Aside0 (∃ B,WordsAt wr B A c (wordsA t.d t.n)))
  case atStart=>exact ⟨0,_,Nat.zero_le _,by omega,rfl,HB,HS2,HS3,⟨Kd.R_nil _ _ _ _ _⟩,⟨_,HW.out⟩⟩
  case round =>
    clear HB HS2 HS3 HW
    obtain ⟨i,v,hi,hg,rfl,HB,HS2,HS3,HR,HW⟩:=hrel
    by_cases hlt:i < (wordsD t.d t.n).length
    · have hltz:(i:Int) < ((wordsD t.d t.n).length:Int):=by omega
      obtain ⟨B,HWb⟩:=HW.out
      obtain ⟨ad,rfl,hx⟩:=HWb.at i (by have:=HWL.out;omega)
      obtain ⟨wd,hwd⟩:∃ x,x=(wordsA t.d t.n)[i]'(by have:=HWL.out;omega):=⟨_,rfl⟩
      rw [← hwd] at hx
      have HWD:=Aside0.mk hwd
      have HWB:=Aside0.mk HWb
      have hvl:i < t.vs.length:=by rw [OT.out.len];exact hlt
      have hvz:(i:Int) < (t.vs.length:Int):=by omega
      have T:=HT.out.below HB.out
      have t2:=T.c2
      have t3:=T.v0 i hvl
      have t4:=T.v1 i hvl
      have s2:=HS3.out.c2
      have e1:t.vs.getD i zeroF=t.vs[i]:=by rw [List.getD_eq_getElem?_getD,List.getElem?_eq_getElem hvl,Option.getD_some]
      have e2:(wordsA t.d t.n).getD i ByteArray.empty=wd:=by rw [hwd,List.getD_eq_getElem?_getD,List.getElem?_eq_getElem (by have:=HWL.out;omega),Option.getD_some]
      have E1:=Aside0.mk e1
      have E2:=Aside0.mk e2
      clear hwd HWb T e1 e2
      by_cases ca:t.vs[i].f0=0
      · go_wp2
        go_roundg ((wordsD t.d t.n).length - (i+1))
        case measure=>omega
        case rel =>
          refine ⟨i+1,v,by omega,by omega,by have:=HSM.out;first|rfl|(rw [w64 (by omega) (by omega)];rfl),HB,HS2,HS3,⟨?_⟩,HW⟩
          rw [termsN_succ]
          unfold termStep
          rw [E1.out,if_neg (fun hh=>hh ca)]
          exact HR.out
      · have ca2:(t.vs[i].f0 != 0)=true:=by simpa using ca
        go_wp2
        have l3:w.heap.size+1 < wr.heap.size:=HS3.out.lt
        have s3:(wr.alloc (.cells #[.string wd,.int .i64 t.vs[i].f0,.int .i64 t.vs[i].f1] 79)).cell? ⟨w.heap.size+1,2,none⟩=some v:=(HS3.out.alloc _).c2
        refine wp_region_noPanic ?_
        go_region_law ((refine Kd.qh3_ k79 w.heap.size rfl (.tmp 40) (.tmp 50) 24 79 (.agg #[(.string ⟨#[]⟩),(.int .i64 0),(.int .i64 0)]) 32 rfl Try.underlying24 info79' rfl (by decide) (by omega) v (termsN t i) ⟨wd,t.vs[i]⟩ [.string wd,.int .i64 t.vs[i].f0,.int .i64 t.vs[i].f1] (fun _=>True) (fun k=>some k ≠ v.ownBlock) rfl rfl (k79_mkM _ _ _ ⟨wd,t.vs[i]⟩) (fun _ h=>⟨trivial,h⟩) (fun _ _=>trivial) (Kd.R_drew HR.out) (qc_ HB.out) HB.out.size (by have:=termsN_len t i;have:=HSM.out;omega) ?_;intro v1 w1 ho hb hg hat;have S3:SrAt w1 (w.heap.size+1) t.d t.n v:=HS3.out.drew.grown hg (Kd.R_ne (Kd.R_drew HR.out) HS3.out.drew (by decide));have S2:SrAt w1 w.heap.size 0 0 (.slice none 0 0):=HS2.out.drew.grown hg (Kd.R_ne (Kd.R_drew HR.out) HS2.out.drew (by decide));obtain ⟨A1,c1,rfl⟩:=Kd.qf2_ ho;have HR1:=Aside0.mk ho;have HB1:=Aside0.mk hb;have HW1:=Aside0.mk (show ∃ B,WordsAt w1 B (some ad) c (wordsA t.d t.n) from ⟨B,WordsAt.grown (Kd.R_drew HWB.out) (Kd.R_drew HR.out) hg⟩);have u0:=S3.c2;have u1:=qd_ S3 2;have HS31:=Aside0.mk S3;have HS21:=Aside0.mk S2;clear S3 S2 ho hb hg hat))
        all_goals
          refine NoPanic.normal ?_
          go_wp2
          go_roundg ((wordsD t.d t.n).length - (i+1))
          case measure=>omega
          case rel =>
            refine ⟨i+1,_,by omega,by omega,by have:=HSM.out;first|rfl|(rw [w64 (by omega) (by omega)];rfl),⟨HB1.out.setCell (by simp) _⟩,⟨HS21.out.far (by simp) _⟩,⟨HS31.out.put _⟩,⟨?_⟩,?_⟩
            · rw [termsN_succ]
              unfold termStep
              rw [E1.out,E2.out,if_pos ca]
              have hh:=HR1.out
              rw [List.length_append,List.length_singleton] at hh
              exact Kd.R_set hh HS31.out (by decide) 2 _
            · obtain ⟨B,hB⟩:=HW1.out
              exact ⟨⟨B,Kd.R_set hB HS31.out (by decide) 2 _⟩⟩
    · have hltz:¬ (i:Int) < ((wordsD t.d t.n).length:Int):=by omega
      obtain rfl:i=(wordsD t.d t.n).length:=by omega
      obtain ⟨Av,cv,rfl⟩:=Kd.qf2_ HR.out
      have y0:=HS3.out.c0
      have y1:=HS3.out.c1
      have y2:=HS3.out.c2
      have x0:=HS2.out.c0
      have x1:=HS2.out.c1
      have x2:=HS2.out.c2
      have f0:=qd_ HS2.out 0
      have f1:=qd_ HS2.out 1
      have f2:=qd_ HS2.out 2
      go_wp2
      refine bodyPost_ret (results_cell_row rfl _ _ _ _ _ _ _ rfl (qt_ (qt_ (qt_ HS2.out 0 _) 1 _) 2 _) hu rfl (by kernel_rfl)) rfl ?_
      refine ⟨_,rfl,?_,?_⟩
      · exact Kd.R_set (Kd.R_set (Kd.R_set HR.out HS2.out (by decide) 0 _) (qt_ HS2.out 0 _) (by decide) 1 _) (qt_ (qt_ HS2.out 0 _) 1 _) (by decide) 2 _
      · exact ((HB.out.setCell (Nat.le_refl _) _).setCell (Nat.le_refl _) _).setCell (Nat.le_refl _) _
end Go.Proofs.Ytaiefdhenikiiaa.Base
namespace Go.Proofs.Ytaiefdhenikiiaa.Base
open Go.RowKit Go.Proofs.YtaiefdhenikiiaaW.PrintWords Go.Proofs.YtaiefdhenikiiaaW.PrintLast Go.Proofs.YtaiefdhenikiiaaW.PrintMore
set_option linter.unusedVariables false
set_option linter.unusedSimpArgs false
/-- A series and a code are handed back. -/
def SerRes (w:World) (d n:Int) (l:List S79) (code:Int) (e:Ending) (w':World):Prop:=∃ v:Value,e=.returned (.tuple #[.agg #[.int .i64 d,.int .i64 n,v],.int .i64 code])∧TermsR w' w.heap.size v l∧Below w.heap.size w w'
/-- What told says of a table. -/
def toldT (t:Tb) (w:World):Ending→World→Prop:=if t.bad=true then SerRes w 0 0 [] 3 else SerRes w t.d t.n (termsT t) 0
set_option maxHeartbeats 16000000 in
set_option maxRecDepth 100000 in
theorem told_ (w:World) {g h:Nat} {t:Tb} (H:TabAt w g h t) (ht:t.Ok):Calls Try.prog 96 #[.pointer (some ⟨g,0,none⟩)] w (toldT t w):=by
  have hu:=Try.underlying38
  have h3:=H.c3
  have hl:=H.ltg
  have HT:=Aside0.mk H
  have OT:=Aside0.mk ht
  clear H ht
  unfold toldT
  cases hb:t.bad with
  | true =>
    rw [if_pos rfl]
    rw [hb] at h3
    go_enter Try.func96,Try.ntmps96
    go_wp2
    refine bodyPost_ret (results_ct rfl _ _ w.heap.size 38 #[.int .i64 0,.int .i64 0,.slice none 0 0] (0,0) _ rfl (new_at rfl) hu rfl (by kernel_rfl)) rfl ?_
    exact ⟨_,rfl,Kd.R_nil _ _ _ _ _,qb_ (Below.refl _ _) _⟩
  | false =>
    rw [if_neg (by simp)]
    rw [hb] at h3
    go_enter Try.func96,Try.ntmps96
    go_wp2_with (go_at_call 164;refine (series_ _ (HT.out.alloc _) OT.out).mono ?_;rintro e w1 ⟨v,rfl,hv,hbl⟩;obtain ⟨A1,c1,rfl⟩:=Kd.qf2_ hv;have HV:=Aside0.mk hv;have HB:=Aside0.mk (show Below w.heap.size w w1 from qj_ (qb_ (Below.refl _ _) _) hbl);have S:=qm_ (new_at (W:=w) (cs:=#[.int .i64 0,.int .i64 0,.slice none 0 0]) (e:=38) rfl) hbl;have x0:w1.cell? ⟨w.heap.size,0,none⟩=some (.int .i64 0):=qg_ S 0;have x1:w1.cell? ⟨w.heap.size,1,none⟩=some (.int .i64 0):=qg_ S 1;have x2:w1.cell? ⟨w.heap.size,2,none⟩=some (.slice none 0 0):=qg_ S 2;have f0:=qd_ S 0;have f1:=qd_ S 1;have f2:=qd_ S 2;have HS:=Aside0.mk S;clear S hv hbl)
    refine bodyPost_ret (results_ct rfl _ _ w.heap.size 38 _ (0,0) _ rfl (qt_ (qt_ (qt_ HS.out 0 _) 1 _) 2 _) hu rfl (by kernel_rfl)) rfl ?_
    refine ⟨_,rfl,?_,?_⟩
    · refine Kd.qn2_ (Kd.R_set (Kd.R_set (Kd.R_set HV.out HS.out (by decide) 0 _) (qt_ HS.out 0 _) (by decide) 1 _) (qt_ (qt_ HS.out 0 _) 1 _) (by decide) 2 _) ?_
      simp
    · exact ((HB.out.setCell (Nat.le_refl _) _).setCell (Nat.le_refl _) _).setCell (Nat.le_refl _) _
end Go.Proofs.Ytaiefdhenikiiaa.Base
namespace Go.Proofs.Ytaiefdhenikiiaa.Base
open Go.RowKit Go.Proofs.YtaiefdhenikiiaaW.PrintWords Go.Proofs.YtaiefdhenikiiaaW.PrintLast Go.Proofs.YtaiefdhenikiiaaW.PrintMore
set_option linter.unusedVariables false
set_option linter.unusedSimpArgs false
/-- The digits of a text. -/
def decW (s:ByteArray):List Nat:=s.data.toList.map fun b=>b.toNat - 48
theorem decW_encW (l:List Nat) (h:∀ x ∈ l,x < 100):decW (encW l)=l:=by
  unfold decW encW
  rw [List.map_map]
  conv=>rhs;rw [← List.map_id l]
  apply List.map_congr_left
  intro x hx
  have:=h x hx
  simp only [Function.comp,UInt8.toNat_ofNat',id_eq]
  omega
/-- Is the text a word of a table? -/
def isWd (d n:Nat) (s:ByteArray):Prop:=encW (decW s)=s∧isD d n (decW s)
/-- Terms of a series. -/
def okTs (d n:Nat) (l:List S79):Prop:=∀ x ∈ l,isWd d n x.f0∧okF x.f1
/-- A term that is a variable in block b. -/
def TmAt (W:World) (b:Nat) (x:S79):Prop:=W.heap[b]?=some (.cells #[.string x.f0,.int .i64 x.f1.f0,.int .i64 x.f1.f1] 79 (0,0))
section
variable {W W':World} {b:Nat} {x:S79}
theorem TmAt.c0 (H:TmAt W b x):W.cell? ⟨b,0,none⟩=some (.string x.f0):=qg_ H 0
theorem TmAt.c1 (H:TmAt W b x):W.cell? ⟨b,1,none⟩=some (.int .i64 x.f1.f0):=qg_ H 1
theorem TmAt.c2 (H:TmAt W b x):W.cell? ⟨b,2,none⟩=some (.int .i64 x.f1.f1):=qg_ H 2
end
end Go.Proofs.Ytaiefdhenikiiaa.Base
namespace Go.Proofs.Ytaiefdhenikiiaa.Base
open Go.RowKit Go.Proofs.YtaiefdhenikiiaaW.PrintWords Go.Proofs.YtaiefdhenikiiaaW.PrintLast Go.Proofs.YtaiefdhenikiiaaW.PrintMore
set_option linter.unusedVariables false
set_option linter.unusedSimpArgs false
theorem newTableL (w:World) (d n:Nat) (hs:Sz d n):Calls Try.prog 126 #[.int .i64 (d:Int),.int .i64 (n:Int)] w (NewT w (zeroT d n) (zeroT d n)):=by
  refine (newTable_ w d n hs).mono ?_
  rintro e w' ⟨g',h',rfl,T,hg,hh,hb⟩
  exact ⟨g',h',rfl,⟨T,⟨rfl,rfl,zeroT_ok hs⟩⟩,hg,hh,hb⟩
end Go.Proofs.Ytaiefdhenikiiaa.Base
namespace Go.Proofs.Ytaiefdhenikiiaa.Base
open Go.RowKit Go.Proofs.YtaiefdhenikiiaaW.PrintWords Go.Proofs.YtaiefdhenikiiaaW.PrintLast Go.Proofs.YtaiefdhenikiiaaW.PrintMore
set_option linter.unusedVariables false
set_option linter.unusedSimpArgs false
def letterT (d n:Nat) (l:List Nat):Tb:=(zeroT d n).put (numN d l) oneF
/-- The bracket,of a word of at most m+1 letters. -/
def bracketN (d n:Nat):Nat→List Nat→Tb
  | 0,l=>letterT d n l
  | m+1,l=>if l.length=1 then letterT d n l else commT (bracketN d n m (l.take (cutI l))) (bracketN d n m (l.drop (cutI l)))
def bracketT (d n:Nat) (l:List Nat):Tb:=bracketN d n 8 l
theorem letterT_like {d n:Nat} (hs:Sz d n) (l:List Nat):Like (letterT d n l) (zeroT d n):=⟨rfl,rfl,(zeroT_ok hs).put _ one_okF⟩
theorem bracketN_like {d n:Nat} (hs:Sz d n):∀ (m:Nat) (l:List Nat),Like (bracketN d n m l) (zeroT d n)
  | 0,l=>letterT_like hs l
  | m+1,l=>by
    unfold bracketN
    split
    · exact letterT_like hs l
    · exact commT_like (bracketN_like hs m _)
theorem isD_100 {d n:Nat} {l:List Nat} (h:isD d n l) (hd:d≤3):∀ x ∈ l,x < 100:=fun x hx=>by have:=h.2 x hx;omega
set_option maxHeartbeats 16000000 in
set_option maxRecDepth 100000 in
theorem bracket_one (w:World) (d n:Nat) (l:List Nat) (hs:Sz d n) (hl:isD d n l) (h1:l.length=1):Calls Try.prog 100 #[.int .i64 (d:Int),.int .i64 (n:Int),.string (encW l)] w (NewT w (letterT d n l) (zeroT d n)):=by
  have hu3:=Try.underlying77
  have HS:=Aside0.mk hs
  have hsz:(encW l).size=1:=by rw [encW_size,h1]
  obtain ⟨k,hk⟩:=(number_is d hs.d3 l hl.2 (by omega)).rounds
  have hkk:numN d l < (zeroT d n).vs.length:=by rw [(zeroT_ok hs).len];exact numN_lt d n l hl
  obtain ⟨kk,hke⟩:∃ kk,kk=numN d l:=⟨_,rfl⟩
  rw [← hke] at hk hkk
  have HK:=Aside0.mk hk
  have HKE:=Aside0.mk hke
  have hkz:(kk:Int) < ((zeroT d n).vs.length:Int):=by omega
  have hk0:(0:Int)≤(kk:Int):=by omega
  clear hs hl h1 hk hke
  go_enter Try.func100,Try.ntmps100
  go_wp2_with (go_at_call 126;refine (newTableL _ d n HS.out).mono ?_;rintro e w1 ⟨g1,k1,rfl,T,hg,hh,hb⟩;have HO:=Aside0.mk T.tab;have HG:=Aside0.mk hg;have HH:=Aside0.mk hh;have HB:=Aside0.mk hb;have o2:=T.tab.c2;have m1:k1 ≠ g1:=T.tab.ne.symm;clear T hg hh hb)
  go_region_held3 (fun w'=>w'.cell? ⟨g1,2,none⟩=some (.slice (some ⟨k1,0,none⟩) (zeroT d n).vs.length (zeroT d n).vs.length)) (go_keep) (first
    | (go_at_call 166;refine (qt1_.calls k _ _ _ _ HK.out).mono ?_;rintro e w2 ⟨rfl,⟨nd,rfl⟩⟩)
    | (go_at_call 165;refine (impl_whole.calls 1 1 1 _ rfl).mono ?_;rintro e w2 ⟨rfl,hb⟩;have O2:TabAt w2 g1 k1 (zeroT d n):=TabAt.below (by repeat (first|(with_reducible exact HO.out)|(with_reducible refine TabAt.drew ?_)|(with_reducible refine TabAt.drewN ?_ _)|(with_reducible refine TabAt.alloc ?_ _))) hb;have HB2:=Aside0.mk (show Below w.heap.size w w2 from qj_ (by repeat (first|(with_reducible exact HB.out)|(with_reducible refine qc_ ?_)|(with_reducible refine qa_ ?_ _)|(with_reducible refine qb_ ?_ _))) hb);have c1:=O2.c2;have c6:=O2.v0 kk hkk;have c7:=O2.v1 kk hkk;have c8:=qd_ O2.vl (kk * 2);have c9:=qd_ O2.vl (kk * 2+1);have HO2:=Aside0.mk O2;clear O2 hb))
  go_wp2
  go_returns
  refine ⟨g1,k1,rfl,⟨?_,letterT_like HS.out l⟩,HG.out,HH.out,(HB2.out.setCell HH.out _).setCell HH.out _⟩
  have:=HO2.out.put kk hkk oneF
  rw [HKE.out] at this
  unfold letterT
  rw [HKE.out]
  exact this
set_option maxHeartbeats 16000000 in
set_option maxRecDepth 100000 in
theorem bracket_ (d n:Nat) (hs:Sz d n) (m:Nat):∀ (l:List Nat) (w:World),isD d n l→1≤l.length→l.length≤m+1→Calls Try.prog 100 #[.int .i64 (d:Int),.int .i64 (n:Int),.string (encW l)] w (NewT w (bracketN d n m l) (zeroT d n)):=by
  induction m with
  | zero=>intro l w hl h1 h2;exact bracket_one w d n l hs hl (by omega)
  | succ m ih =>
    intro l w hl h1 h2
    by_cases c1:l.length=1
    · unfold bracketN;rw [if_pos c1];exact bracket_one w d n l hs hl c1
    · unfold bracketN;rw [if_neg c1]
      obtain ⟨k,hk⟩:=(cut_is l (isD_100 hl hs.d3) (by have:=hl.1;have:=hs.n8;omega) (by omega)).rounds
      have hc:=cutI_lt (l:=l) (by omega)
      have IH1:=Aside0.mk (fun W=>ih (l.take (cutI l)) W (isD_take hl _) (by rw [List.length_take];omega) (by rw [List.length_take];omega))
      have IH2:=Aside0.mk (fun W=>ih (l.drop (cutI l)) W (isD_drop hl _) (by rw [List.length_drop];omega) (by rw [List.length_drop];omega))
      have HK:=Aside0.mk hk
      have HZ:=Aside0.mk (zeroT_ok hs)
      have hsz:(encW l).size=l.length:=encW_size l
      have hz1:¬ ((l.length:Int)=1):=by omega
      have hzs:¬ (((encW l).size:Int)=1):=by rw [hsz];omega
      obtain ⟨u,hu⟩:∃ u,u=encW (l.take (cutI l)):=⟨_,rfl⟩
      obtain ⟨v,hv⟩:∃ v,v=encW (l.drop (cutI l)):=⟨_,rfl⟩
      rw [← hu] at IH1 HK
      rw [← hv] at IH2 HK
      clear ih hk hc hl hu hv
      obtain ⟨flag,hflag⟩:∃ b:Nat,b=0:=⟨0,rfl⟩
      go_enter Try.func100,Try.ntmps100
      go_wp2_with (first
        | (go_at_call 167;refine (qg2_.calls k _ _ _ _ HK.out).mono ?_;rintro e w1 ⟨rfl,⟨nd,rfl⟩⟩)
        | (go_at_call 100;clear hflag;refine (IH1.out _).mono ?_;rintro e w2 ⟨g2,k2,rfl,T,hg,hh,hb⟩;have HT:=Aside0.mk T;have HB:=Aside0.mk (show Below w.heap.size w w2 from qj_ (qa_ (Below.refl _ _) _) hb);clear T hg hh hb)
        | (go_at_call 100;refine (IH2.out _).mono ?_;rintro e w3 ⟨g3,k3,rfl,T,hg,hh,hb⟩;have HU:=Aside0.mk T;have HT3:=Aside0.mk (HT.out.below hb);have HB3:=Aside0.mk (show Below w.heap.size w w3 from qj_ HB.out hb);clear T hg hh hb)
        | (go_at_call 113;refine (commutator' _ HT3.out HU.out HZ.out).mono ?_;rintro e w4 ⟨g4,k4,rfl,T,hg,hh,hb⟩;have HT4:=Aside0.mk T;have HG4:=Aside0.mk (Nat.le_trans HB3.out.size hg);have HH4:=Aside0.mk (Nat.le_trans HB3.out.size hh);have HB4:=Aside0.mk (show Below w.heap.size w w4 from qj_ HB3.out hb);clear T hg hh hb))
      go_returns
      exact ⟨g4,k4,rfl,HT4.out,HG4.out,HH4.out,HB4.out⟩
theorem bracket' (w:World) (d n:Nat) (l:List Nat) (hs:Sz d n) (hl:isD d n l) (h1:1≤l.length):Calls Try.prog 100 #[.int .i64 (d:Int),.int .i64 (n:Int),.string (encW l)] w (NewT w (bracketT d n l) (zeroT d n)) :=
  bracket_ d n hs 8 l w hl h1 (by have:=hl.1;have:=hs.n8;omega)
theorem bracketT_like {d n:Nat} (hs:Sz d n) (l:List Nat):Like (bracketT d n l) (zeroT d n):=bracketN_like hs 8 l
end Go.Proofs.Ytaiefdhenikiiaa.Base
namespace Go.Proofs.Ytaiefdhenikiiaa.Base
open Go.RowKit Go.Proofs.YtaiefdhenikiiaaW.PrintWords Go.Proofs.YtaiefdhenikiiaaW.PrintLast Go.Proofs.YtaiefdhenikiiaaW.PrintMore
set_option linter.unusedVariables false
set_option linter.unusedSimpArgs false
def leftS (d n:Nat) (l:List Nat) (m:Nat):Tb:=(List.range m).foldl (fun t i=>commT t (bracketT d n ((l.drop (i+1)).take 1))) (bracketT d n (l.take 1))
def leftT (d n:Nat) (l:List Nat):Tb:=if l=[] then zeroT d n else leftS d n l (l.length - 1)
theorem leftS_succ (d n:Nat) (l:List Nat) (m:Nat):leftS d n l (m+1)=commT (leftS d n l m) (bracketT d n ((l.drop (m+1)).take 1)):=by unfold leftS;rw [List.range_succ,List.foldl_append];rfl
theorem leftS_like {d n:Nat} (hs:Sz d n) (l:List Nat) (m:Nat):Like (leftS d n l m) (zeroT d n):=by
  induction m with
  | zero=>exact bracketT_like hs _
  | succ m ih=>rw [leftS_succ];exact commT_like ih
theorem leftT_like {d n:Nat} (hs:Sz d n) (l:List Nat):Like (leftT d n l) (zeroT d n):=by
  unfold leftT;split
  · exact ⟨rfl,rfl,zeroT_ok hs⟩
  · exact leftS_like hs l _
set_option maxHeartbeats 16000000 in
set_option maxRecDepth 100000 in
theorem leftBracket_ (w:World) (d n:Nat) (l:List Nat) (hs:Sz d n) (hl:isD d n l):Calls Try.prog 95 #[.int .i64 (d:Int),.int .i64 (n:Int),.string (encW l)] w (NewT w (leftT d n l) (zeroT d n)):=by
  have HS:=Aside0.mk hs
  have hsz:(encW l).size=l.length:=encW_size l
  have h8:l.length≤8:=by have:=hl.1;have:=hs.n8;omega
  by_cases h0:l=[]
  · subst h0
    unfold leftT;rw [if_pos rfl]
    have he:(encW []).toList.isEmpty=true:=by rw [encW_list];rfl
    clear hs hl
    go_enter Try.func95,Try.ntmps95
    go_wp2_with (go_at_call 126;refine (newTableL _ d n HS.out).mono ?_;rintro e w1 ⟨g1,k1,rfl,T,hg,hh,hb⟩)
    go_returns
    exact ⟨g1,k1,rfl,T,hg,hh,hb⟩
  · unfold leftT;rw [if_neg h0]
    have h1:1≤l.length:=by cases l with|nil=>exact absurd rfl h0|cons a l=>simp
    have hz1:(1:Int)≤(l.length:Int):=by omega
    have hz2:(1:Int)≤((encW l).size:Int):=by omega
    have hne:(encW l).toList.isEmpty=false:=by
      rw [encW_list]
      cases l with
      | nil=>exact absurd rfl h0
      | cons a l=>rfl
    have X0:=Aside0.mk (show (encW l).extract 0 1=encW (l.take 1) by rw [extract_enc l 0 1 (Nat.zero_le _),List.drop_zero])
    have HL:=Aside0.mk hl
    have HZ:=Aside0.mk (zeroT_ok hs)
    have H1:=Aside0.mk (fun W=>bracket' W d n (l.take 1) hs (isD_take hl 1) (by rw [List.length_take];omega))
    clear hs hl h0
    go_enter Try.func95,Try.ntmps95
    go_wp2_with (go_at_call 100;rw [X0.out];refine (H1.out _).mono ?_;rintro e w1 ⟨g1,k1,rfl,T,hg,hh,hb⟩;have HO:=Aside0.mk T;have HG:=Aside0.mk hg;have HH:=Aside0.mk hh;have HB:=Aside0.mk hb;clear T hg hh hb)
    go_loopg [7,8] l.length (fun gg v7 v8 wr=>∃ (m g1 k1:Nat),m+1≤l.length∧l.length - m≤gg∧v7=.pointer (some ⟨g1,0,none⟩)∧v8=.int .i64 ((m+1:Nat):Int)∧Aside0 (HasT wr g1 k1 (leftS d n l m) (zeroT d n))∧Aside0 (w.heap.size≤g1)∧Aside0 (w.heap.size≤k1)∧Aside0 (Below w.heap.size w wr))
    case atStart=>exact ⟨0,g1,k1,h1,by omega,rfl,rfl,HO,HG,HH,HB⟩
    case round =>
      clear HO HG HH HB H1 X0
      obtain ⟨m,g1,k1,hm,hg,rfl,rfl,HO,HG,HH,HB⟩:=hrel
      obtain ⟨j,hj⟩:∃ j,j=m+1:=⟨_,rfl⟩
      rw [← hj]
      rw [← hj] at hm
      by_cases hlt:j < l.length
      · have hjz:(j:Int) < (l.length:Int):=by omega
        have hjz1:(j:Int)+1≤(l.length:Int):=by omega
        have hjz2:(j:Int)≤(j:Int)+1:=by omega
        have hjz3:(0:Int)≤(j:Int)+1:=by omega
        have hjw:IntKind.i64.wrap ((j:Int)+1)=(j:Int)+1:=by rw [i64_w,w64 (by omega) (by omega)]
        have X1:=Aside0.mk (show (encW l).extract j (j+1)=encW ((l.drop j).take 1) by rw [extract_enc l j (j+1) (by omega),List.drop_take,Nat.add_sub_cancel_left])
        have H2:=Aside0.mk (fun W=>bracket' W d n ((l.drop j).take 1) HS.out (isD_take (isD_drop HL.out j) 1) (by rw [List.length_take,List.length_drop];omega))
        have HJ:=Aside0.mk hj
        clear hj
        go_wp2_with (first
          | (go_at_call 100;rw [X1.out];refine (H2.out _).mono ?_;rintro e w3 ⟨g3,k3,rfl,T,hg,hh,hb⟩;have HT:=Aside0.mk T;have HO3:=Aside0.mk (HO.out.below hb);have HB3:=Aside0.mk (show Below w.heap.size w w3 from qj_ HB.out hb);clear T hg hh hb)
          | (go_at_call 113;refine (commutator' _ HO3.out HT.out HZ.out).mono ?_;rintro e w4 ⟨g4,k4,rfl,T,hg,hh,hb⟩;have HO4:=Aside0.mk T;have HG4:=Aside0.mk (Nat.le_trans HB3.out.size hg);have HH4:=Aside0.mk (Nat.le_trans HB3.out.size hh);have HB4:=Aside0.mk (show Below w.heap.size w w4 from qj_ HB3.out hb);clear T hg hh hb))
        go_roundg (l.length - (m+1))
        case measure=>have:=HJ.out;omega
        case rel =>
          have hj:=HJ.out
          refine ⟨m+1,g4,k4,by omega,by omega,rfl,by rw [← hj];first|rfl|(rw [w64 (by omega) (by omega)];rfl),⟨?_⟩,HG4,HH4,HB4⟩
          rw [leftS_succ,← hj]
          exact HO4.out
      · have hjz:¬ (j:Int) < (l.length:Int):=by omega
        go_wp2
        go_returns
        refine ⟨g1,k1,rfl,?_,HG.out,HH.out,HB.out⟩
        rw [show l.length - 1=m by omega]
        exact HO.out
end Go.Proofs.Ytaiefdhenikiiaa.Base
namespace Go.Proofs.Ytaiefdhenikiiaa.Base
open Go.RowKit Go.Proofs.YtaiefdhenikiiaaW.PrintWords Go.Proofs.YtaiefdhenikiiaaW.PrintLast Go.Proofs.YtaiefdhenikiiaaW.PrintMore
set_option linter.unusedVariables false
set_option linter.unusedSimpArgs false
theorem foldl_val (d:Nat) (l:List Nat):∀ v,l.foldl (fun v x=>v * d+x) v=v * d ^ l.length+valN d l:=by
  induction l with
  | nil=>intro v;simp [valN]
  | cons x l ih =>
    intro v
    have h0:valN d (x :: l)=l.foldl (fun v x=>v * d+x) (0 * d+x):=rfl
    rw [h0,ih (0 * d+x),List.foldl_cons,ih (v * d+x),List.length_cons,Nat.pow_succ,Nat.add_mul,Nat.mul_assoc,Nat.mul_comm d,Nat.zero_mul,Nat.zero_add]
    omega
theorem valN_cons (d x:Nat) (l:List Nat):valN d (x :: l)=x * d ^ l.length+valN d l:=by
  have h0:valN d (x :: l)=l.foldl (fun v x=>v * d+x) (0 * d+x):=rfl
  rw [h0,foldl_val,Nat.zero_mul,Nat.zero_add]
theorem val_lt (d:Nat) (l:List Nat) (h:∀ x ∈ l,x < d):valN d l < d ^ l.length:=by
  induction l with
  | nil=>simp [valN]
  | cons x l ih =>
    have h1:=ih (fun y hy=>h y (List.mem_cons_of_mem _ hy))
    have h2:=h x List.mem_cons_self
    rw [valN_cons,List.length_cons,Nat.pow_succ,Nat.mul_comm (d ^ l.length)]
    have h3:(x+1) * d ^ l.length≤d * d ^ l.length:=Nat.mul_le_mul_right _ h2
    rw [Nat.add_mul,Nat.one_mul] at h3
    omega
theorem less_val (d:Nat):∀ a b:List Nat,a.length=b.length→(∀ x ∈ a,x < d)→(∀ x ∈ b,x < d)→(lessN a b=true ↔ valN d a < valN d b)
  | [],[],_,_,_=>by simp [lessN]
  | [],b :: y,h,_,_=>by simp at h
  | a :: x,[],h,_,_=>by simp at h
  | a :: x,b :: y,h,ha,hb=>by
    have hl:x.length=y.length:=by simpa using h
    have ih:=less_val d x y hl (fun i hi=>ha i (List.mem_cons_of_mem _ hi)) (fun i hi=>hb i (List.mem_cons_of_mem _ hi))
    have h1:=val_lt d x (fun i hi=>ha i (List.mem_cons_of_mem _ hi))
    have h2:=val_lt d y (fun i hi=>hb i (List.mem_cons_of_mem _ hi))
    simp only [lessN,Bool.or_eq_true,decide_eq_true_eq,Bool.and_eq_true,beq_iff_eq]
    rw [ih,valN_cons,valN_cons,← hl]
    rw [← hl] at h2
    obtain ⟨p,hp⟩:∃ p,p=d ^ x.length:=⟨_,rfl⟩
    rw [← hp] at h1 h2 ⊢
    constructor
    · rintro (c|⟨c,c2⟩)
      · have h3:(a+1) * p≤b * p:=Nat.mul_le_mul_right _ c
        rw [Nat.add_mul,Nat.one_mul] at h3
        omega
      · rw [c];omega
    · intro c
      by_cases e:a=b
      · right;rw [e] at c;exact ⟨e,by omega⟩
      · left
        by_cases e2:a < b
        · exact e2
        · exfalso
          have h3:(b+1) * p≤a * p:=Nat.mul_le_mul_right _ (by omega)
          rw [Nat.add_mul,Nat.one_mul] at h3
          omega
theorem ahead_mono (d:Nat) {a b:Nat} (h:a≤b):aheadN d a≤aheadN d b:=by
  induction h with
  | refl=>exact Nat.le_refl _
  | step _ ih=>simp only [aheadN];omega
theorem num_lt_iff (d:Nat) (a b:List Nat) (ha:∀ x ∈ a,x < d) (hb:∀ x ∈ b,x < d):numN d a < numN d b ↔ (if a.length ≠ b.length then a.length < b.length else lessN a b=true):=by
  have h1:=val_lt d a ha
  have h2:=val_lt d b hb
  unfold numN
  by_cases e:a.length=b.length
  · rw [if_neg (by simpa using e),less_val d a b e ha hb,e];omega
  · rw [if_pos e]
    constructor
    · intro c
      rcases Nat.lt_or_ge a.length b.length with c1|c1
      · exact c1
      · exfalso
        have h3:=ahead_mono d (show b.length+1≤a.length by omega)
        have h4:aheadN d (b.length+1)=aheadN d b.length+d ^ b.length:=rfl
        omega
    · intro c
      have h3:=ahead_mono d (show a.length+1≤b.length by omega)
      have h4:aheadN d (a.length+1)=aheadN d a.length+d ^ a.length:=rfl
      omega
theorem bef_enc (d:Nat) (hd:d≤9) (a b:List Nat) (ha:∀ x ∈ a,x < d) (hb:∀ x ∈ b,x < d):befW (encW a) (encW b)=decide (numN d a < numN d b):=by
  have h:=num_lt_iff d a b ha hb
  unfold befW
  rw [encW_size,encW_size,encW_list,encW_list,less_enc a b (fun i hi=>by have:=ha i hi;omega) (fun i hi=>by have:=hb i hi;omega)]
  by_cases e:a.length=b.length
  · rw [if_neg (by simpa using e)] at h
    rw [if_neg (by omega),Bool.eq_iff_iff,decide_eq_true_iff]
    exact h.symm
  · rw [if_pos e] at h
    rw [if_pos (by omega),decide_eq_decide,h]
    omega
def termOf (t:Tb) (i:Nat):Option S79:=if (t.vs.getD i zeroF).f0 ≠ 0 then some ⟨(wordsA t.d t.n).getD i ByteArray.empty,t.vs.getD i zeroF⟩ else none
def segT (t:Tb) (lo m:Nat):List S79:=(List.range' lo m).filterMap (termOf t)
theorem termsN_seg (t:Tb) (n:Nat):termsN t n=segT t 0 n:=by
  induction n with
  | zero=>rfl
  | succ n ih =>
    rw [termsN_succ,ih]
    unfold segT
    rw [List.range'_1_concat,List.filterMap_append,Nat.zero_add]
    have e:List.filterMap (termOf t) [n]=(termOf t n).toList:=by cases h:termOf t n <;> simp [h]
    rw [e]
    unfold termStep termOf
    by_cases h:(t.vs.getD n zeroF).f0 ≠ 0
    · rw [if_pos h,if_pos h];rfl
    · rw [if_neg h,if_neg h];simp
theorem termsT_seg (t:Tb):termsT t=segT t 0 (wordsD t.d t.n).length:=termsN_seg t _
theorem seg_add (t:Tb) (lo m n:Nat):segT t lo (m+n)=segT t lo m ++ segT t (lo+m) n:=by
  unfold segT
  rw [← List.filterMap_append,← List.range'_append_1]
theorem seg_one (t:Tb) (lo:Nat):segT t lo 1=(termOf t lo).toList:=by
  unfold segT
  simp only [List.range'_one]
  cases h:termOf t lo <;> simp [h]
theorem seg_split (t:Tb) {k L:Nat} (h:k < L):segT t 0 L=segT t 0 k ++ ((termOf t k).toList ++ segT t (k+1) (L - (k+1))):=by
  conv=>lhs;rw [show L=k+(1+(L - (k+1))) by omega]
  rw [seg_add,seg_add,seg_one,Nat.zero_add]
theorem filterMap_same {α β:Type} {f g:α→Option β}:∀ {l:List α},(∀ x ∈ l,f x=g x)→l.filterMap f=l.filterMap g
  | [],_=>rfl
  | x :: l,h=>by
    rw [List.filterMap_cons,List.filterMap_cons,h x List.mem_cons_self,filterMap_same (fun y hy=>h y (List.mem_cons_of_mem _ hy))]
theorem seg_congr {t u:Tb} (hd:t.d=u.d) (hn:t.n=u.n) (lo m:Nat) (h:∀ i,lo≤i→i < lo+m→t.vs.getD i zeroF=u.vs.getD i zeroF):segT t lo m=segT u lo m:=by
  unfold segT
  apply filterMap_same
  intro i hi
  have:=List.mem_range'_1.1 hi
  unfold termOf
  rw [h i this.1 this.2,hd,hn]
theorem seg_zero (t:Tb) (lo m:Nat) (h:∀ i,lo≤i→i < lo+m→(t.vs.getD i zeroF).f0=0):segT t lo m=[]:=by
  unfold segT
  rw [List.filterMap_eq_nil_iff]
  intro i hi
  have:=List.mem_range'_1.1 hi
  unfold termOf
  rw [if_neg (by rw [h i this.1 this.2];simp)]
theorem mem_seg {t:Tb} {lo m:Nat} {x:S79} (h:x ∈ segT t lo m):∃ i,lo≤i∧i < lo+m∧termOf t i=some x:=by
  unfold segT at h
  obtain ⟨i,hi,e⟩:=List.mem_filterMap.1 h
  have:=List.mem_range'_1.1 hi
  exact ⟨i,this.1,this.2,e⟩
theorem termOf_word {t:Tb} {i:Nat} {x:S79} (hi:i < (wordsD t.d t.n).length) (h:termOf t i=some x):x.f0=encW (wordsD t.d t.n)[i]∧x.f1=t.vs.getD i zeroF∧x.f1.f0 ≠ 0:=by
  unfold termOf at h
  split at h
  · next c =>
    obtain rfl:=Option.some.inj h
    refine ⟨?_,rfl,c⟩
    show (wordsA t.d t.n).getD i ByteArray.empty=_
    unfold wordsA
    rw [List.getD_eq_getElem?_getD,List.getElem?_map,List.getElem?_eq_getElem hi];rfl
  · cases h
theorem word_digits {t:Tb} {i:Nat} (hi:i < (wordsD t.d t.n).length):isD t.d t.n (wordsD t.d t.n)[i]:=(wordsD_mem _ _ _).1 (List.getElem_mem hi)
theorem termOf_bef {t:Tb} (hs:Sz t.d t.n) {i:Nat} {x:S79} (hi:i < (wordsD t.d t.n).length) (h:termOf t i=some x) {l:List Nat} (hl:isD t.d t.n l):befW x.f0 (encW l)=decide (i < numN t.d l):=by
  rw [(termOf_word hi h).1,bef_enc t.d (by have:=hs.d3;omega) _ _ (word_digits hi).2 hl.2,wordsD_at]
theorem encW_inj {a b:List Nat} (ha:∀ x ∈ a,x < 100) (hb:∀ x ∈ b,x < 100) (h:encW a=encW b):a=b:=by
  rw [← decW_encW a ha,← decW_encW b hb,h]
/-- A fraction with the numerator 0 is 0. -/
theorem okF_zero {a:S77} (h:okF a) (h0:a.f0=0):a=zeroF:=by
  obtain ⟨h1,_,_,_,h5⟩:=h
  rw [h0,Int.gcd_zero_left] at h5
  exact S77.ext' h0 (by show a.f1=1;omega)
theorem plus_zero {a:S77} (h:okF a):plusM zeroF a=(a,true):=by
  obtain ⟨h1,h2,h3,h4,h5⟩:=h
  have e1:zeroF.f0 * a.f1+a.f0 * zeroF.f1=a.f0:=by show 0 * a.f1+a.f0 * 1=a.f0;omega
  have e2:zeroF.f1 * a.f1=a.f1:=by show 1 * a.f1=a.f1;omega
  have e3:byM a.f0 a.f1=1:=by unfold byM;rw [if_neg (by omega),h5];rfl
  unfold plusM redM
  rw [e1,e2,e3,Int.ediv_one,Int.ediv_one]
  rw [decide_eq_true (show okF ⟨a.f0,a.f1⟩ from ⟨h1,h2,h3,h4,h5⟩)]
/-- What l01Put does with terms. -/
def putAt (l:List S79) (w:ByteArray):Nat:=(l.takeWhile fun x=>befW x.f0 w).length
def putL (l:List S79) (w:ByteArray) (a:S77):Option (List S79) :=
  match l[putAt l w]? with
  | some x=>if x.f0=w then (if (plusM x.f1 a).2=true then some (l.take (putAt l w) ++ (if (plusM x.f1 a).1.f0=0 then [] else [⟨w,(plusM x.f1 a).1⟩]) ++ l.drop (putAt l w+1)) else none)
    else some (l.take (putAt l w) ++ (if a.f0=0 then [] else [⟨w,a⟩]) ++ l.drop (putAt l w))
  | none=>some (l.take (putAt l w) ++ (if a.f0=0 then [] else [⟨w,a⟩]) ++ l.drop (putAt l w))
theorem takeWhile_parts {α:Type} (p:α→Bool) (a b:List α) (ha:∀ x ∈ a,p x=true) (hb:∀ x ∈ b,p x=false):((a ++ b).takeWhile p)=a:=by
  induction a with
  | nil =>
    cases b with
    | nil=>rfl
    | cons y b=>rw [List.nil_append,List.takeWhile_cons_of_neg (by rw [hb y List.mem_cons_self];simp)]
  | cons x a ih=>rw [List.cons_append,List.takeWhile_cons_of_pos (ha x List.mem_cons_self),ih (fun y hy=>ha y (List.mem_cons_of_mem _ hy))]
theorem put_getD (t:Tb) (k:Nat) (hk:k < t.vs.length) (a:S77) (i:Nat):(t.put k a).vs.getD i zeroF=if i=k then a else t.vs.getD i zeroF:=by
  unfold Tb.put
  simp only [List.getD_eq_getElem?_getD,List.getElem?_set]
  by_cases e:k=i
  · rw [if_pos e,if_pos e.symm,if_pos (by omega),Option.getD_some]
  · rw [if_neg e,if_neg (fun h=>e h.symm)]
/-- A term put among the terms of a table is a value of the table put. -/
theorem putL_terms {t:Tb} (ht:t.Ok) {l:List Nat} (hl:isD t.d t.n l) {a:S77} (ha:okF a) :
    putL (termsT t) (encW l) a=if (plusM (t.val l) a).2=true then some (termsT (t.put (numN t.d l) (plusM (t.val l) a).1)) else none:=by
  have hk:numN t.d l < (wordsD t.d t.n).length:=numN_lt _ _ _ hl
  have hkv:=ht.lt hl
  obtain ⟨k,hke⟩:∃ k,k=numN t.d l:=⟨_,rfl⟩
  have hv:t.val l=t.vs.getD k zeroF:=by rw [hke];rfl
  have hwl:(wordsD t.d t.n)[numN t.d l]?=some l:=wordsD_is _ _ _ hl
  rw [hv]
  rw [← hke] at hk hkv hwl ⊢
  have hlw:(wordsD t.d t.n)[k]=l:=by rw [List.getElem?_eq_getElem hk] at hwl;exact Option.some.inj hwl
  have hA:∀ x ∈ segT t 0 k,befW x.f0 (encW l)=true:=by
    intro x hx
    obtain ⟨i,_,h2,e⟩:=mem_seg hx
    rw [termOf_bef ht.sz (by omega) e hl,← hke];simp;omega
  have hB:∀ x ∈ ((termOf t k).toList ++ segT t (k+1) ((wordsD t.d t.n).length - (k+1))),befW x.f0 (encW l)=false:=by
    intro x hx
    rcases List.mem_append.1 hx with hx|hx
    · have e:termOf t k=some x:=by simpa using hx
      rw [termOf_bef ht.sz hk e hl,← hke];simp
    · obtain ⟨i,h1,h2,e⟩:=mem_seg hx
      rw [termOf_bef ht.sz (by omega) e hl,← hke];simp;omega
  have hT:termsT t=segT t 0 k ++ ((termOf t k).toList ++ segT t (k+1) ((wordsD t.d t.n).length - (k+1))):=by rw [termsT_seg,seg_split t hk]
  have hat:putAt (termsT t) (encW l)=(segT t 0 k).length:=by unfold putAt;rw [hT,takeWhile_parts _ _ _ hA hB]
  have hP:∀ b:S77,termsT (t.put k b)=segT t 0 k ++ ((if b.f0=0 then [] else [⟨encW l,b⟩]) ++ segT t (k+1) ((wordsD t.d t.n).length - (k+1))):=by
    intro b
    have e0:termsT (t.put k b)=segT (t.put k b) 0 (wordsD t.d t.n).length:=termsT_seg _
    rw [e0,seg_split _ hk]
    have e1:segT (t.put k b) 0 k=segT t 0 k:=seg_congr (t:=t.put k b) (u:=t) rfl rfl _ _ (fun i _ h2=>by rw [put_getD t k hkv,if_neg (by omega)])
    have e2:segT (t.put k b) (k+1) ((wordsD t.d t.n).length - (k+1))=segT t (k+1) ((wordsD t.d t.n).length - (k+1)):=seg_congr (t:=t.put k b) (u:=t) rfl rfl _ _ (fun i h1 _=>by rw [put_getD t k hkv,if_neg (by omega)])
    have e3:(termOf (t.put k b) k).toList=if b.f0=0 then [] else [⟨encW l,b⟩]:=by
      unfold termOf
      rw [put_getD t k hkv,if_pos rfl]
      have e4:(wordsA (t.put k b).d (t.put k b).n).getD k ByteArray.empty=encW l:=by
        show (wordsA t.d t.n).getD k ByteArray.empty=encW l
        unfold wordsA
        rw [List.getD_eq_getElem?_getD,List.getElem?_map,hwl];rfl
      rw [e4]
      by_cases c:b.f0=0
      · rw [if_neg (by simpa using c),if_pos c];rfl
      · rw [if_pos c,if_neg c];rfl
    rw [e1,e2,e3]
  rw [hP]
  unfold putL
  rw [hat,hT,List.take_left]
  by_cases c:(t.vs.getD k zeroF).f0=0
  · -- no such term
    have e1:termOf t k=none:=by unfold termOf;rw [if_neg (by simpa using c)]
    have hz:t.vs.getD k zeroF=zeroF:=okF_zero (by have:=ht.val l;rwa [hv] at this) c
    rw [e1,hz,plus_zero ha,if_pos rfl]
    simp only [Option.toList_none,List.nil_append]
    rw [List.drop_left,List.getElem?_append_right (Nat.le_refl _),Nat.sub_self]
    cases hR:segT t (k+1) ((wordsD t.d t.n).length - (k+1)) with
    | nil=>simp only [List.getElem?_nil,List.append_assoc]
    | cons y ys =>
      simp only [List.getElem?_cons_zero]
      have hy:y ∈ segT t (k+1) ((wordsD t.d t.n).length - (k+1)):=by rw [hR];exact List.mem_cons_self
      obtain ⟨i,h1,h2,e⟩:=mem_seg hy
      have hne:y.f0 ≠ encW l:=by
        intro hc
        have hi:i < (wordsD t.d t.n).length:=by omega
        rw [(termOf_word hi e).1] at hc
        have hd3:=ht.sz.d3
        have:=encW_inj (fun x hx=>by have:=(word_digits hi).2 x hx;omega) (fun x hx=>by have:=hl.2 x hx;omega) hc
        have h3:=wordsD_at t.d t.n i hi
        rw [this,← hke] at h3
        omega
      rw [if_neg hne,List.append_assoc]
  · have e1:termOf t k=some ⟨encW l,t.vs.getD k zeroF⟩:=by
      unfold termOf
      rw [if_pos c]
      have e4:(wordsA t.d t.n).getD k ByteArray.empty=encW l:=by
        unfold wordsA
        rw [List.getD_eq_getElem?_getD,List.getElem?_map,hwl];rfl
      rw [e4]
    rw [e1]
    simp only [Option.toList_some,List.singleton_append]
    rw [List.getElem?_append_right (Nat.le_refl _),Nat.sub_self]
    simp only [List.getElem?_cons_zero,if_true]
    have e2:(segT t 0 k ++ (⟨encW l,t.vs.getD k zeroF⟩:S79) :: segT t (k+1) ((wordsD t.d t.n).length - (k+1))).drop ((segT t 0 k).length+1)=segT t (k+1) ((wordsD t.d t.n).length - (k+1)):=by
      rw [← List.drop_drop,List.drop_left];rfl
    rw [e2]
    by_cases cp:(plusM (t.vs.getD k zeroF) a).2=true
    · rw [if_pos cp,if_pos cp,List.append_assoc]
    · rw [if_neg cp,if_neg cp]
end Go.Proofs.Ytaiefdhenikiiaa.Base
namespace Go.Proofs.Ytaiefdhenikiiaa.Base
open Go.RowKit Go.Proofs.YtaiefdhenikiiaaW.PrintWords Go.Proofs.YtaiefdhenikiiaaW.PrintLast Go.Proofs.YtaiefdhenikiiaaW.PrintMore
set_option linter.unusedVariables false
set_option linter.unusedSimpArgs false
theorem wordB_is {d n:Nat} {s:ByteArray} (h:wordB d n s=true) (hd:d≤9):isWd d n s:=by
  unfold wordB at h
  rw [Bool.and_eq_true,List.all_eq_true,decide_eq_true_iff] at h
  obtain ⟨h1,h2⟩:=h
  have hb:∀ b ∈ s.data.toList,48≤b.toNat∧b.toNat < 48+d:=fun b hb=>of_decide_eq_true (h1 b hb)
  refine ⟨?_,?_,?_⟩
  · apply ByteArray.ext
    unfold encW decW
    rw [List.map_map]
    have:(s.data.toList.map ((fun i=>UInt8.ofNat (48+i)) ∘ fun b=>b.toNat - 48))=s.data.toList:=by
      conv=>rhs;rw [← List.map_id s.data.toList]
      apply List.map_congr_left
      intro b hb'
      have:=hb b hb'
      simp only [Function.comp,id_eq]
      rw [show 48+(b.toNat - 48)=b.toNat by omega,UInt8.ofNat_toNat]
    rw [this]
  · unfold decW;rw [List.length_map,Array.length_toList]
    have:s.size=s.data.size:=rfl
    omega
  · intro x hx
    unfold decW at hx
    obtain ⟨b,hb',rfl⟩:=List.mem_map.1 hx
    have:=hb b hb'
    show b.toNat - 48 < d
    omega
theorem good_okTs {d n:Nat} (hd:d≤9):∀ {l:List S79},goodB d n l=true→okTs d n l∧∀ x ∈ l,x.f1.f0 ≠ 0
  | [],_=>⟨fun x hx=>by simp at hx,fun x hx=>by simp at hx⟩
  | [x],h=>by
    simp only [goodB,termB,Bool.and_eq_true,decide_eq_true_eq,bne_iff_ne,Bool.and_true] at h
    refine ⟨fun y hy=>?_,fun y hy=>?_⟩ <;> obtain rfl:=List.mem_singleton.1 hy
    · exact ⟨wordB_is h.1.1 hd,h.1.2⟩
    · exact h.2
  | x :: y :: l,h=>by
    simp only [goodB,Bool.and_eq_true] at h
    obtain ⟨h1,_,h3⟩:=h
    have ih:=good_okTs hd h3
    simp only [termB,Bool.and_eq_true,decide_eq_true_eq,bne_iff_ne,Bool.and_true] at h1
    refine ⟨fun z hz=>?_,fun z hz=>?_⟩ <;> rcases List.mem_cons.1 hz with rfl|hz
    · exact ⟨wordB_is h1.1.1 hd,h1.1.2⟩
    · exact ih.1 z hz
    · exact h1.2
    · exact ih.2 z hz
theorem zero_terms {d n:Nat}:termsT (zeroT d n)=[]:=by
  rw [termsT_seg]
  apply seg_zero
  intro i _ _
  show ((List.replicate (wordsD d n).length zeroF).getD i zeroF).f0=0
  rw [List.getD_eq_getElem?_getD,List.getElem?_replicate]
  split <;> rfl
theorem val_mem {t:Tb} (ht:t.Ok) {l:List Nat} (hl:isD t.d t.n l) (h:(t.val l).f0 ≠ 0):(⟨encW l,t.val l⟩:S79) ∈ termsT t:=by
  have hk:numN t.d l < (wordsD t.d t.n).length:=numN_lt _ _ _ hl
  rw [termsT_seg,seg_split t hk]
  refine List.mem_append_right _ (List.mem_append_left _ ?_)
  have hwl:(wordsD t.d t.n)[numN t.d l]?=some l:=wordsD_is _ _ _ hl
  have e4:(wordsA t.d t.n).getD (numN t.d l) ByteArray.empty=encW l:=by
    unfold wordsA
    rw [List.getD_eq_getElem?_getD,List.getElem?_map,hwl];rfl
  unfold termOf
  rw [show t.vs.getD (numN t.d l) zeroF=t.val l from rfl,if_pos h,e4]
  simp
end Go.Proofs.Ytaiefdhenikiiaa.Base
namespace Go.Proofs.Ytaiefdhenikiiaa.Base
open Go.RowKit Go.Proofs.YtaiefdhenikiiaaW.PrintWords Go.Proofs.YtaiefdhenikiiaaW.PrintLast Go.Proofs.YtaiefdhenikiiaaW.PrintMore
set_option linter.unusedVariables false
set_option linter.unusedSimpArgs false
def serR (T:Tb):Int × Int × List S79 × Int:=if T.bad=true then (0,0,[],3) else (T.d,T.n,termsT T,0)
theorem told_all {T p:Tb} (hT:Like T p) {r1 r2:Int} {r3:List S79} {r4:Int} (h:serR T=(r1,r2,r3,r4)):∀ (W:World) (g k:Nat),TabAt W g k T→Calls Try.prog 96 #[.pointer (some ⟨g,0,none⟩)] W (SerRes W r1 r2 r3 r4):=by
  intro W g k H
  have:=told_ W H hT.2.2
  unfold toldT at this
  unfold serR at h
  split at h
  · next c =>
    rw [if_pos c] at this
    simp only [Prod.mk.injEq] at h
    obtain ⟨rfl,rfl,rfl,rfl⟩:=h
    exact this
  · next c =>
    rw [if_neg c] at this
    simp only [Prod.mk.injEq] at h
    obtain ⟨rfl,rfl,rfl,rfl⟩:=h
    exact this
end Go.Proofs.Ytaiefdhenikiiaa.Base
namespace Go.Proofs.Ytaiefdhenikiiaa.Base
open Go.RowKit Go.Proofs.YtaiefdhenikiiaaW.PrintWords Go.Proofs.YtaiefdhenikiiaaW.PrintLast Go.Proofs.YtaiefdhenikiiaaW.PrintMore
set_option linter.unusedSimpArgs false
set_option linter.unusedVariables false
theorem eqSer_id (d n:Int) (l:List S79) (hl:l.length≤2000000):Ev (fun q=>qb2_.f q d n l d n l) true:=by
  unfold qb2_.f
  simp only [if_true]
  refine Ev.bind (eqT_same l hl) ?_
  simp only [if_true];exact Ev.now _
theorem marksSer_id (d n:Int) (l:List S79) (hl:l.length≤2000000):∃ l':List S79,Ev (fun q=>qz1_.f q d n l 1) (((1+3 * l.length:Nat):Int),l')∧Ev (fun q=>qe2_.f q d n l' 1) ((1+3 * l.length:Nat):Int):=by
  obtain ⟨l',_,h1,h2⟩:=marksT l hl
  refine ⟨l',?_,?_⟩
  · unfold qz1_.f;exact Ev.bind h1 (Ev.now _)
  · unfold qe2_.f
    refine Ev.bind h2 ?_
    simp only [show ¬ ((1+3 * l.length:Nat):Int) < 0 by omega,if_false]
    exact Ev.now _
theorem serR_len {T:Tb} {d n:Nat} (h:Like T (zeroT d n)) (hs:Sz d n):(serR T).2.2.1.length≤2000000:=by
  unfold serR
  split
  · simp
  · have h1:(termsT T).length≤(wordsD T.d T.n).length:=termsN_len T _
    have h2:(wordsD T.d T.n).length≤19683:=wordsD_small _ _ (by rw [h.1];exact hs.d3) (by rw [h.2.1];exact hs.n8)
    show (termsT T).length≤_
    omega
end Go.Proofs.Ytaiefdhenikiiaa.Base
namespace Go.Proofs.Ytaiefdhenikiiaa.Base
open Go.RowKit Go.Proofs.YtaiefdhenikiiaaW.PrintWords Go.Proofs.YtaiefdhenikiiaaW.PrintLast Go.Proofs.YtaiefdhenikiiaaW.PrintMore
set_option linter.unusedVariables false
set_option linter.unusedSimpArgs false
theorem szv_loop (l:List S75) (hl:l.length≤2000000) (hw:∀ x ∈ l,x.f0.size≤9223372036854775807) (m:Nat):∀ (j:Nat) (left:Int),j+m=l.length→0≤left→left≤1048576 →
    ∃ v,Ev (fun q=>qm1_.l0 q l left (j:Int)) v∧v≤left∧(0≤v→∀ i (h:i < l.length),j≤i→(l[i].f0.size:Int)≤1048576):=by
  induction m with
  | zero =>
    intro j left hj h0 h1
    refine ⟨left,Ev.step (f:=fun _=>some left) (fun q=>?_) (Ev.now _),Int.le_refl _,fun _ i h hi=>by omega⟩
    simp only [qm1_.l0];rw [if_neg (by omega)]
  | succ m ih =>
    intro j left hj h0 h1
    have hjl:j < l.length:=by omega
    have hs:=hw l[j] (List.getElem_mem hjl)
    have ew:wrap64 (left - (l[j].f0.size:Int))=left - (l[j].f0.size:Int):=w64m (by omega) (by omega)
    by_cases c:left - (l[j].f0.size:Int) < 0
    · refine ⟨-1,Ev.step (f:=fun _=>some (-1)) (fun q=>?_) (Ev.now _),by omega,fun h=>by omega⟩
      simp only [qm1_.l0]
      rw [if_pos (by omega),if_pos (by omega),rd75 l j hjl]
      unfold qe3_.f
      rw [ew,if_pos c]
      simp only [Option.bind_some]
      rw [if_pos (by omega)]
    · obtain ⟨v,h2,hle,h3⟩:=ih (j+1) (left - (l[j].f0.size:Int)) (by omega) (by omega) (by omega)
      refine ⟨v,Ev.step (fun q=>?_) h2,by omega,fun hv i hi hji=>?_⟩
      · simp only [qm1_.l0]
        rw [if_pos (by omega),if_pos (by omega),rd75 l j hjl]
        unfold qe3_.f
        rw [ew,if_neg c]
        simp only [Option.bind_some]
        rw [if_neg c,w64m (x:=(j:Int)+1) (by omega) (by omega)]
        rfl
      · by_cases e:i=j
        · subst e;omega
        · exact h3 hv i hi (by omega)
theorem szv_is (l:List S75) (hn:l.length≤9223372036854775807) (hw:∀ x ∈ l,x.f0.size≤9223372036854775807) (left:Int) (h0:0≤left) (h1:left≤1048576) :
    ∃ v,Ev (fun q=>qm1_.f q l left) v∧v≤left∧(0≤v→l.length≤1048576∧∀ x ∈ l,x.f0.size≤1048576):=by
  have ew:wrap64 (left - (l.length:Int))=left - (l.length:Int):=w64m (by omega) (by omega)
  by_cases c:left - (l.length:Int) < 0
  · refine ⟨-1,Ev.congr (f:=fun _=>some (-1)) (fun q=>?_) (Ev.now _),by omega,fun h=>by omega⟩
    unfold qm1_.f;rw [ew,if_pos c]
  · obtain ⟨v,h2,hle,h3⟩:=szv_loop l (by omega) hw l.length 0 (left - (l.length:Int)) (by omega) (by omega) (by omega)
    refine ⟨v,Ev.congr (fun q=>?_) h2,by omega,fun hv=>⟨by omega,fun x hx=>?_⟩⟩
    · unfold qm1_.f;rw [ew,if_neg c];rfl
    · obtain ⟨i,hi,rfl⟩:=List.mem_iff_getElem.1 hx
      have:=h3 hv i hi (Nat.zero_le _)
      omega
theorem toSer_is (d n:Int) (l:List S75) (hl:l.length≤2000000):Ev (fun q=>qd2_.f q d n l) (d,n,l.map toX):=by
  unfold qd2_.f
  exact Ev.bind (toT_is l hl) (Ev.now _)
theorem szS_is (D N:Int) (l:List S75) (hn:l.length≤9223372036854775807) (hw:∀ x ∈ l,x.f0.size≤9223372036854775807) (left:Int) (h0:0≤left) (h1:left≤1048576) :
    ∃ v,Ev (fun q=>qk2_.f q D N l left) v∧v≤1048576∧(0≤v→l.length≤1048576∧∀ x ∈ l,x.f0.size≤1048576):=by
  obtain ⟨v,hv,hle,h2⟩:=szv_is l hn hw left h0 h1
  by_cases c:v < 0
  · refine ⟨-1,?_,by omega,fun h=>by omega⟩
    unfold qk2_.f
    refine Ev.bind hv ?_
    simp only [c,if_true];exact Ev.now _
  · refine ⟨v,?_,by omega,h2⟩
    unfold qk2_.f
    refine Ev.bind hv ?_
    simp only [c,if_false];exact Ev.now _
/-- A series as_ an argument: what the law's copy is. -/
theorem arg_small (l:List S75) (h:l.length≤1048576∧∀ x ∈ l,x.f0.size≤1048576):smallT (l.map toX):=⟨by rw [List.length_map];exact h.1,fun x hx=>by
  obtain ⟨y,hy,rfl⟩:=List.mem_map.1 hx
  exact h.2 y hy⟩
end Go.Proofs.Ytaiefdhenikiiaa.Base
namespace Go.Proofs.Ytaiefdhenikiiaa.Base
open Go.RowKit Go.Proofs.YtaiefdhenikiiaaW.PrintWords Go.Proofs.YtaiefdhenikiiaaW.PrintLast Go.Proofs.YtaiefdhenikiiaaW.PrintMore
set_option linter.unusedVariables false
set_option linter.unusedSimpArgs false
theorem serB_nat {D N:Int} {l:List S79} (h:serB D N l=true):∃ d n:Nat,D=d∧N=n∧Sz d n∧goodB d n l=true:=by
  unfold serB at h
  rw [Bool.and_eq_true] at h
  obtain ⟨d,n,rfl,rfl,h1,h2⟩:=lvl_nat h.1
  exact ⟨d,n,rfl,rfl,⟨by omega,by omega,by omega⟩,by have:=h.2;rwa [Int.toNat_natCast,Int.toNat_natCast] at this⟩
end Go.Proofs.Ytaiefdhenikiiaa.Base
namespace Go.Proofs.Ytaiefdhenikiiaa.Base
open Go.RowKit Go.Proofs.YtaiefdhenikiiaaW.PrintWords Go.Proofs.YtaiefdhenikiiaaW.PrintLast Go.Proofs.YtaiefdhenikiiaaW.PrintMore
set_option linter.unusedVariables false
set_option linter.unusedSimpArgs false
theorem mem_terms {t:Tb} {x:S79} (h:x ∈ termsT t):∃ l,isD t.d t.n l∧x.f0=encW l∧x.f1=t.val l∧x.f1.f0 ≠ 0:=by
  rw [termsT_seg] at h
  obtain ⟨i,_,h2,e⟩:=mem_seg h
  have hi:i < (wordsD t.d t.n).length:=by omega
  obtain ⟨e1,e2,e3⟩:=termOf_word hi e
  refine ⟨_,word_digits hi,e1,?_,e3⟩
  rw [e2];unfold Tb.val;rw [wordsD_at]
/-- The value of a word among terms. -/
def valL (l:List S79) (w:ByteArray):S77:=match l.find? (fun x=>decide (x.f0=w)) with|some x=>x.f1|none=>zeroF
theorem isD_small {d n:Nat} (hs:Sz d n) {l:List Nat} (h:isD d n l):∀ x ∈ l,x < 100:=fun x hx=>by have:=h.2 x hx;have:=hs.d3;omega
theorem valL_terms {t:Tb} (ht:t.Ok) {l:List Nat} (hl:isD t.d t.n l):valL (termsT t) (encW l)=t.val l:=by
  unfold valL
  cases hf:(termsT t).find? (fun x=>decide (x.f0=encW l)) with
  | none =>
    rw [List.find?_eq_none] at hf
    by_cases c:(t.val l).f0=0
    · exact (okF_zero (ht.val l) c).symm
    · exact absurd (decide_eq_true (rfl:encW l=encW l)) (hf _ (val_mem ht hl c))
  | some x =>
    have h1:=of_decide_eq_true (List.find?_some (p:=fun x:S79=>decide (x.f0=encW l)) hf)
    obtain ⟨l2,h2,h3,h4,_⟩:=mem_terms (List.mem_of_find?_eq_some hf)
    have:=encW_inj (isD_small ht.sz h2) (isD_small ht.sz hl) (h3.symm.trans h1)
    show x.f1=_
    rw [h4,this]
/-- One cut's product is added. -/
def cutO (a b s:S77):Option S77:=if a.f0=0 ∨ b.f0=0 then some s else if (timesM a b).2=true∧(plusM s (timesM a b).1).2=true then some (plusM s (timesM a b).1).1 else none
def cutsO (A B:Nat→S77):Nat→Option S77
  | 0=>some zeroF
  | n+1=>(cutsO A B n).bind (cutO (A n) (B n))
theorem cutO_ok {a b s s':S77} (hs:okF s) (h:cutO a b s=some s'):okF s':=by
  unfold cutO at h
  split at h
  · obtain rfl:=Option.some.inj h;exact hs
  · split at h
    · next c=>obtain rfl:=Option.some.inj h;exact plus_okF c.2
    · cases h
theorem cutsO_ok {A B:Nat→S77}:∀ {n:Nat} {s:S77},cutsO A B n=some s→okF s
  | 0,s,h=>by obtain rfl:=Option.some.inj h;exact zero_okF
  | n+1,s,h=>by
    obtain ⟨s0,h0,h1⟩:=Option.bind_eq_some_iff.1 h
    exact cutO_ok (cutsO_ok h0) h1
theorem Tb.put_self {t:Tb} {k:Nat} {a:S77} (hk:k < t.vs.length) (h:t.vs.getD k zeroF=a):t.put k a=t:=by
  unfold Tb.put
  rw [List.getD_eq_getElem?_getD,List.getElem?_eq_getElem hk,Option.getD_some] at h
  rw [← h,List.set_getElem_self]
theorem Tb.put_put (t:Tb) (k:Nat) (a b:S77):(t.put k a).put k b=t.put k b:=by unfold Tb.put;simp
theorem Tb.chk_true (t:Tb):t.chk true=t:=by unfold Tb.chk;simp
theorem addT_good (o:Tb) (l:List Nat) (a b:S77) (h1:(timesM a b).2=true) (h2:(plusM (o.val l) (timesM a b).1).2=true):o.addT l a b=o.put (numN o.d l) (plusM (o.val l) (timesM a b).1).1:=by
  unfold Tb.addT Tb.addW Tb.add
  rw [h1,Tb.chk_true]
  unfold chkF
  rw [if_pos rfl]
  unfold Tb.val at h2 ⊢
  rw [h2,Tb.chk_true,if_pos rfl]
theorem addT_bad (o:Tb) (l:List Nat) (a b:S77) (h:o.bad=true ∨ ¬ ((timesM a b).2=true∧(plusM (o.val l) (timesM a b).1).2=true)):(o.addT l a b).bad=true:=by
  unfold Tb.addT Tb.addW Tb.add Tb.chk Tb.put
  unfold Tb.val at h
  cases h1:(timesM a b).2 with
  | false=>simp
  | true =>
    rw [h1] at h
    unfold chkF
    simp only [if_true]
    rcases h with h|h
    · simp [h]
    · have:(plusM (o.vs.getD (numN o.d l) zeroF) (timesM a b).1).2=false:=by simpa using h
      rw [List.getD_eq_getElem?_getD] at this
      simp [this]
theorem cutT_bad (t u o:Tb) (l:List Nat) (i:Nat) (h:o.bad=true):(cutT t u l o i).bad=true:=by
  unfold cutT
  split
  · exact addT_bad _ _ _ _ (.inl h)
  · exact h
theorem wordT_bad (t u o:Tb) (l:List Nat) (h:o.bad=true):(wordT t u o l).bad=true:=by
  unfold wordT
  have:∀ n,(cutsT t u l o n).bad=true:=by
    intro n
    induction n with
    | zero=>exact h
    | succ n ih=>rw [cutsT_succ];exact cutT_bad _ _ _ _ _ ih
  exact this _
theorem wordsT_bad (t u:Tb) (ls:List (List Nat)):∀ o:Tb,o.bad=true→(wordsT t u o ls).bad=true:=by
  induction ls with
  | nil=>intro o h;exact h
  | cons l ls ih=>intro o h;exact ih _ (wordT_bad t u o l h)
/-- All cuts of a word. -/
theorem cuts_tab (t u o:Tb) (l:List Nat) (hk:numN o.d l < o.vs.length) (hz:o.val l=zeroF) (n:Nat) :
    match cutsO (fun i=>t.val (l.take i)) (fun i=>u.val (l.drop i)) n with
    | some s=>cutsT t u l o n=o.put (numN o.d l) s
    | none=>(cutsT t u l o n).bad=true:=by
  induction n with
  | zero=>exact (Tb.put_self hk hz).symm
  | succ n ih =>
    rw [cutsT_succ]
    simp only [cutsO]
    cases hc:cutsO (fun i=>t.val (l.take i)) (fun i=>u.val (l.drop i)) n with
    | none =>
      rw [hc] at ih
      simp only [Option.bind_none] at ih ⊢
      exact cutT_bad _ _ _ _ _ ih
    | some s =>
      rw [hc] at ih
      simp only [Option.bind_some] at ih ⊢
      rw [ih]
      have hd:(o.put (numN o.d l) s).d=o.d:=rfl
      have hv:(o.put (numN o.d l) s).val l=s:=by
        unfold Tb.val
        rw [hd,put_getD o _ hk,if_pos rfl]
      unfold cutO cutT
      by_cases c1:(t.val (l.take n)).f0=0 ∨ (u.val (l.drop n)).f0=0
      · rw [if_pos c1,if_neg (fun hh=>by rcases c1 with c1|c1;exact hh.1 c1;exact hh.2 c1)]
      · have c1':(t.val (l.take n)).f0 ≠ 0∧(u.val (l.drop n)).f0 ≠ 0:=⟨fun hh=>c1 (.inl hh),fun hh=>c1 (.inr hh)⟩
        rw [if_neg c1,if_pos c1']
        by_cases c2:(timesM (t.val (l.take n)) (u.val (l.drop n))).2=true∧(plusM s (timesM (t.val (l.take n)) (u.val (l.drop n))).1).2=true
        · rw [if_pos c2]
          show Tb.addT _ _ _ _=_
          rw [addT_good _ _ _ _ c2.1 (by rw [hv];exact c2.2),hv,hd,Tb.put_put]
        · rw [if_neg c2]
          exact addT_bad _ _ _ _ (.inr (by rw [hv];exact c2))
def wordO (t u:Tb) (l:List Nat):Option S77:=cutsO (fun i=>t.val (l.take i)) (fun i=>u.val (l.drop i)) (l.length+1)
/-- The product's terms,word by word. -/
def prodO (t u:Tb) (ls:List (List Nat)):Option (List S79)→Option (List S79):=fun acc=>ls.foldl (fun acc l=>acc.bind fun q=>(wordO t u l).map fun s=>q ++ (if s.f0=0 then [] else [⟨encW l,s⟩])) acc
theorem prodO_none (t u:Tb) (ls:List (List Nat)):prodO t u ls none=none:=by
  induction ls with
  | nil=>rfl
  | cons l ls ih=>exact ih
theorem prodO_append (t u:Tb) (a b:List (List Nat)) (q:Option (List S79)):prodO t u (a ++ b) q=prodO t u b (prodO t u a q):=by unfold prodO;rw [List.foldl_append]
theorem prod_tab (t u p:Tb) (hp:Sz p.d p.n) (hd:t.d=p.d):∀ m,m≤(wordsD p.d p.n).length →
    match prodO t u ((wordsD p.d p.n).take m) (some []) with
    | some q=>Like (wordsT t u (zeroT p.d p.n) ((wordsD p.d p.n).take m)) p∧(wordsT t u (zeroT p.d p.n) ((wordsD p.d p.n).take m)).bad=false∧q=segT (wordsT t u (zeroT p.d p.n) ((wordsD p.d p.n).take m)) 0 m∧∀ i,m≤i→(wordsT t u (zeroT p.d p.n) ((wordsD p.d p.n).take m)).vs.getD i zeroF=zeroF
    | none=>(wordsT t u (zeroT p.d p.n) ((wordsD p.d p.n).take m)).bad=true:=by
  intro m
  induction m with
  | zero =>
    intro _
    simp only [List.take_zero]
    refine ⟨⟨rfl,rfl,zeroT_ok hp⟩,rfl,rfl,fun i _=>?_⟩
    show (List.replicate _ zeroF).getD i zeroF=zeroF
    rw [List.getD_eq_getElem?_getD,List.getElem?_replicate]
    split <;> rfl
  | succ m ih =>
    intro hm
    have hlt:m < (wordsD p.d p.n).length:=hm
    have ih:=ih (by omega)
    rw [List.take_succ_eq_append_getElem hlt,prodO_append]
    have eW:wordsT t u (zeroT p.d p.n) ((wordsD p.d p.n).take m ++ [(wordsD p.d p.n)[m]])=wordT t u (wordsT t u (zeroT p.d p.n) ((wordsD p.d p.n).take m)) (wordsD p.d p.n)[m]:=by unfold wordsT;rw [List.foldl_append];rfl
    rw [eW]
    obtain ⟨O,hO⟩:∃ O,O=wordsT t u (zeroT p.d p.n) ((wordsD p.d p.n).take m):=⟨_,rfl⟩
    obtain ⟨l,hl⟩:∃ l,l=(wordsD p.d p.n)[m]:=⟨_,rfl⟩
    rw [← hO] at ih ⊢
    rw [← hl]
    cases hq:prodO t u ((wordsD p.d p.n).take m) (some []) with
    | none =>
      rw [hq] at ih
      rw [prodO_none]
      exact wordT_bad _ _ _ _ ih
    | some q =>
      rw [hq] at ih
      obtain ⟨hlk,hb,hqs,hz⟩:=ih
      have hlD:isD p.d p.n l:=by rw [hl];exact (wordsD_mem _ _ _).1 (List.getElem_mem hlt)
      have hnum:numN p.d l=m:=by rw [hl];exact wordsD_at _ _ _ hlt
      have hOd:O.d=p.d:=hlk.1
      have hOn:O.n=p.n:=hlk.2.1
      have hkO:numN O.d l < O.vs.length:=by rw [hOd,hnum,hlk.2.2.len,hOd,hOn];exact hlt
      have hv:O.val l=zeroF:=by unfold Tb.val;rw [hOd,hnum];exact hz m (Nat.le_refl _)
      have hc:=cuts_tab t u O l hkO hv (l.length+1)
      show match ((some q).bind fun q=>(wordO t u l).map fun s=>q ++ (if s.f0=0 then [] else [⟨encW l,s⟩])) with|some q=>_|none=>_
      simp only [Option.bind_some]
      unfold wordT
      cases hw:wordO t u l with
      | none =>
        unfold wordO at hw
        rw [hw] at hc
        exact hc
      | some s =>
        have hsok:=cutsO_ok hw
        unfold wordO at hw
        rw [hw] at hc
        simp only [Option.map_some]
        simp only at hc
        rw [hc,hOd,hnum]
        have hkm:m < O.vs.length:=by rw [hOd,hnum] at hkO;exact hkO
        refine ⟨⟨hlk.1,hlk.2.1,hlk.2.2.put _ hsok⟩,hb,?_,fun i hi=>?_⟩
        · rw [seg_add _ 0 m 1,seg_one,Nat.zero_add]
          rw [seg_congr (t:=O.put m s) (u:=O) rfl rfl 0 m (fun i _ h2=>by rw [put_getD O m hkm,if_neg (by omega)]),← hqs]
          congr 1
          unfold termOf
          rw [put_getD O m hkm,if_pos rfl]
          have e4:(wordsA (O.put m s).d (O.put m s).n).getD m ByteArray.empty=encW l:=by
            show (wordsA O.d O.n).getD m ByteArray.empty=encW l
            rw [hOd,hOn]
            unfold wordsA
            rw [List.getD_eq_getElem?_getD,List.getElem?_map,List.getElem?_eq_getElem hlt,hl];rfl
          rw [e4]
          by_cases c:s.f0=0
          · rw [if_pos c,if_neg (by simpa using c)];rfl
          · rw [if_neg c,if_pos c];rfl
        · rw [put_getD O m hkm,if_neg (by omega)]
          exact hz i (by omega)
/-- What a partial list of terms says of a table. -/
def outT (t:Tb):Option (List S79):=if t.bad=true then none else some (termsT t)
theorem times_terms (t u p:Tb) (hp:Sz p.d p.n) (ht:Like t p) (hbt:t.bad=false) (hbu:u.bad=false):prodO t u (wordsD p.d p.n) (some [])=outT (timesT t u):=by
  have h:=prod_tab t u p hp ht.1 _ (Nat.le_refl _)
  rw [List.take_length] at h
  have e:timesT t u=wordsT t u (zeroT p.d p.n) (wordsD p.d p.n):=by
    unfold timesT badT zeroT
    rw [hbt,hbu,ht.1,ht.2.1];rfl
  unfold outT
  rw [e]
  cases hq:prodO t u (wordsD p.d p.n) (some []) with
  | none=>rw [hq] at h;rw [if_pos h]
  | some q =>
    rw [hq] at h
    obtain ⟨h1,h2,h3,_⟩:=h
    rw [if_neg (by rw [h2];simp),termsT_seg,h1.1,h1.2.1]
    rw [h3]
end Go.Proofs.Ytaiefdhenikiiaa.Base
namespace Go.Proofs.Ytaiefdhenikiiaa.Base
open Go.RowKit Go.Proofs.YtaiefdhenikiiaaW.PrintWords Go.Proofs.YtaiefdhenikiiaaW.PrintLast Go.Proofs.YtaiefdhenikiiaaW.PrintMore
set_option linter.unusedVariables false
set_option linter.unusedSimpArgs false
theorem plus_zero_r {a:S77} (h:okF a):plusM a zeroF=(a,true):=by
  have:=plus_zero h
  unfold plusM at this ⊢
  rw [← this]
  congr 1
  · rw [Int.add_comm]
  · rw [Int.mul_comm]
theorem times_comm (a b:S77):timesM a b=timesM b a:=by unfold timesM;rw [Int.mul_comm a.f0,Int.mul_comm a.f1]
theorem times_zero {k:S77} (hk:okF k):timesM zeroF k=(zeroF,true):=by
  obtain ⟨h1,_⟩:=hk
  have e1:zeroF.f0 * k.f0=0:=by show 0 * k.f0=0;omega
  have e2:zeroF.f1 * k.f1=k.f1:=by show 1 * k.f1=k.f1;omega
  have e3:byM 0 k.f1=k.f1:=by unfold byM;rw [if_neg (by omega),Int.gcd_zero_left];omega
  unfold timesM redM
  rw [e1,e2,e3,Int.zero_ediv,Int.ediv_self (by omega)]
  rfl
theorem times_ne {a k:S77} (ha:okF a) (hk:okF k) (h1:a.f0 ≠ 0) (h2:k.f0 ≠ 0):(timesM a k).1.f0 ≠ 0:=by
  have hd:a.f1 * k.f1 ≠ 0:=Int.mul_ne_zero (by have:=ha.1;omega) (by have:=hk.1;omega)
  have hn:a.f0 * k.f0 ≠ 0:=Int.mul_ne_zero h1 h2
  show (a.f0 * k.f0) / byM (a.f0 * k.f0) (a.f1 * k.f1) ≠ 0
  intro hc
  have:=Int.ediv_mul_cancel (by_dvd (a.f0 * k.f0) (a.f1 * k.f1)).1
  rw [hc,Int.zero_mul] at this
  exact hn this.symm
theorem fill_bad (P:Nat→S77 × Bool) (o:Tb) (n:Nat):(fillT P o n).bad=(o.bad || (List.range n).any fun i=>!(P i).2):=by
  induction n with
  | zero=>simp [fillT]
  | succ n ih =>
    rw [fillT_succ,List.range_succ,List.any_append]
    show ((fillT P o n).bad || !(P n).2)=_
    rw [ih];simp [Bool.or_assoc]
theorem fill_vals (P:Nat→S77 × Bool) (o:Tb) (n:Nat) (hn:n≤o.vs.length) (i:Nat):(fillT P o n).vs.getD i zeroF=if i < n then chkF (P i).1 (P i).2 else o.vs.getD i zeroF:=by
  induction n with
  | zero=>rfl
  | succ n ih =>
    have ih:=ih (by omega)
    have hl:=(fillT_dn P o n).2.2
    rw [fillT_succ]
    have e:((fillT P o n).putF n (P n)).vs.getD i zeroF=if i=n then chkF (P n).1 (P n).2 else (fillT P o n).vs.getD i zeroF:=put_getD ((fillT P o n).chk (P n).2) n (by show n < (fillT P o n).vs.length;omega) _ i
    rw [e,ih]
    by_cases c:i=n
    · subst c;rw [if_pos rfl,if_pos (by omega)]
    · rw [if_neg c]
      by_cases c2:i < n
      · rw [if_pos c2,if_pos (by omega)]
      · rw [if_neg c2,if_neg (by omega)]
/-- Terms put one by one. -/
def addL (x ys:List S79):Option (List S79):=ys.foldl (fun acc y=>acc.bind fun q=>putL q y.f0 y.f1) (some x)
theorem addL_append (x a b:List S79):addL x (a ++ b)=b.foldl (fun acc y=>acc.bind fun q=>putL q y.f0 y.f1) (addL x a):=by unfold addL;rw [List.foldl_append]
def addN (t u:Tb):Nat→Tb
  | 0=>t
  | m+1=>(addN t u m).put m (plusM (t.vs.getD m zeroF) (u.vs.getD m zeroF)).1
theorem addN_len (t u:Tb):∀ m,(addN t u m).vs.length=t.vs.length
  | 0=>rfl
  | m+1=>by show ((addN t u m).vs.set m _).length=_;rw [List.length_set];exact addN_len t u m
theorem addN_dn (t u:Tb):∀ m,(addN t u m).d=t.d∧(addN t u m).n=t.n∧(addN t u m).bad=t.bad
  | 0=>⟨rfl,rfl,rfl⟩
  | m+1=>addN_dn t u m
theorem addN_vals (t u:Tb):∀ m,m≤t.vs.length→∀ i,(addN t u m).vs.getD i zeroF=if i < m then (plusM (t.vs.getD i zeroF) (u.vs.getD i zeroF)).1 else t.vs.getD i zeroF
  | 0,_,i=>rfl
  | m+1,hm,i=>by
    have ih:=addN_vals t u m (by omega) i
    show ((addN t u m).put m _).vs.getD i zeroF=_
    rw [put_getD _ m (by rw [addN_len];omega),ih]
    by_cases c:i=m
    · subst c;rw [if_pos rfl,if_pos (by omega)]
    · rw [if_neg c]
      by_cases c2:i < m
      · rw [if_pos c2,if_pos (by omega)]
      · rw [if_neg c2,if_neg (by omega)]
def okN (t u:Tb) (m:Nat):Bool:=(List.range m).all fun i=>(plusM (t.vs.getD i zeroF) (u.vs.getD i zeroF)).2
theorem okF_at {t:Tb} (h:t.Ok) (i:Nat):okF (t.vs.getD i zeroF):=by
  rw [List.getD_eq_getElem?_getD]
  cases hx:t.vs[i]? with
  | none=>exact zero_okF
  | some x=>exact h.fr x (List.mem_of_getElem? hx)
theorem add_loop (t u p:Tb) (hp:Sz p.d p.n) (ht:Like t p) (hu:Like u p):∀ m,m≤(wordsD p.d p.n).length →
    (okN t u m=true→(addN t u m).Ok)∧addL (termsT t) (segT u 0 m)=if okN t u m=true then some (termsT (addN t u m)) else none:=by
  intro m
  induction m with
  | zero=>intro _;exact ⟨fun _=>ht.2.2,rfl⟩
  | succ m ih =>
    intro hm
    obtain ⟨ih1,ih2⟩:=ih (by omega)
    have hlt:m < (wordsD p.d p.n).length:=hm
    have htl:t.vs.length=(wordsD p.d p.n).length:=by rw [ht.2.2.len,ht.1,ht.2.1]
    have eok:okN t u (m+1)=(okN t u m && (plusM (t.vs.getD m zeroF) (u.vs.getD m zeroF)).2):=by unfold okN;rw [List.range_succ,List.all_append];simp
    have hd:(addN t u m).d=p.d:=(addN_dn t u m).1.trans ht.1
    have hn:(addN t u m).n=p.n:=(addN_dn t u m).2.1.trans ht.2.1
    obtain ⟨l,hl⟩:∃ l,l=(wordsD p.d p.n)[m]:=⟨_,rfl⟩
    have hlD:isD p.d p.n l:=by rw [hl];exact (wordsD_mem _ _ _).1 (List.getElem_mem hlt)
    have hnum:numN p.d l=m:=by rw [hl];exact wordsD_at _ _ _ hlt
    have hv:(addN t u m).vs.getD m zeroF=t.vs.getD m zeroF:=by rw [addN_vals t u m (by omega),if_neg (by omega)]
    rw [eok]
    refine ⟨fun h=>?_,?_⟩
    · rw [Bool.and_eq_true] at h
      exact (ih1 h.1).put m (plus_okF h.2)
    · rw [seg_add u 0 m 1,seg_one,Nat.zero_add,addL_append,ih2]
      by_cases ho:okN t u m=true
      · rw [if_pos ho,ho,Bool.true_and]
        have hO:=ih1 ho
        by_cases c:(u.vs.getD m zeroF).f0=0
        · have e1:termOf u m=none:=by unfold termOf;rw [if_neg (by simpa using c)]
          have e2:u.vs.getD m zeroF=zeroF:=okF_zero (okF_at hu.2.2 m) c
          rw [e1,e2,plus_zero_r (okF_at ht.2.2 m),if_pos rfl]
          show some _=some _
          have e3:addN t u (m+1)=addN t u m:=by
            show (addN t u m).put m _=_
            rw [e2,plus_zero_r (okF_at ht.2.2 m)]
            exact Tb.put_self (by rw [addN_len];omega) hv
          rw [e3]
        · have e1:termOf u m=some ⟨encW l,u.vs.getD m zeroF⟩:=by
            unfold termOf
            rw [if_pos c]
            have e4:(wordsA u.d u.n).getD m ByteArray.empty=encW l:=by
              rw [hu.1,hu.2.1]
              unfold wordsA
              rw [List.getD_eq_getElem?_getD,List.getElem?_map,List.getElem?_eq_getElem hlt,hl];rfl
            rw [e4]
          rw [e1]
          show putL (termsT (addN t u m)) (encW l) (u.vs.getD m zeroF)=_
          have e5:(addN t u m).val l=t.vs.getD m zeroF:=by unfold Tb.val;rw [hd,hnum];exact hv
          rw [putL_terms hO (by rw [hd,hn];exact hlD) (okF_at hu.2.2 m),e5,hd,hnum]
          rfl
      · rw [if_neg ho]
        have:okN t u m=false:=by simpa using ho
        rw [this,Bool.false_and,if_neg (by simp)]
        cases termOf u m <;> rfl
theorem Tb.ext' {t u:Tb} (h1:t.d=u.d) (h2:t.n=u.n) (h3:t.bad=u.bad) (h4:t.vs.length=u.vs.length) (h5:∀ i,i < t.vs.length→t.vs.getD i zeroF=u.vs.getD i zeroF):t=u:=by
  obtain ⟨d,n,vs,b⟩:=t
  obtain ⟨d',n',vs',b'⟩:=u
  simp only at h1 h2 h3 h4 h5
  subst h1 h2 h3
  congr 1
  apply List.ext_getElem h4
  intro i hi hi'
  have:=h5 i hi
  rwa [List.getD_eq_getElem?_getD,List.getD_eq_getElem?_getD,List.getElem?_eq_getElem hi,List.getElem?_eq_getElem hi',Option.getD_some,Option.getD_some] at this
theorem add_terms (t u p:Tb) (hp:Sz p.d p.n) (ht:Like t p) (hu:Like u p) (hbt:t.bad=false) (hbu:u.bad=false):addL (termsT t) (termsT u)=outT (sumT t u):=by
  obtain ⟨h1,h2⟩:=add_loop t u p hp ht hu _ (Nat.le_refl _)
  have htl:t.vs.length=(wordsD p.d p.n).length:=by rw [ht.2.2.len,ht.1,ht.2.1]
  have eb:(sumT t u).bad=!okN t u (wordsD p.d p.n).length:=by
    unfold sumT
    rw [fill_bad,htl]
    show ((t.bad || u.bad) || _)=_
    rw [hbt,hbu]
    unfold okN sumP
    simp [List.all_eq_not_any_not]
  rw [termsT_seg u,hu.1,hu.2.1,h2]
  unfold outT
  rw [eb]
  by_cases ho:okN t u (wordsD p.d p.n).length=true
  · rw [if_pos ho,ho,if_neg (by simp)]
    congr 2
    apply Tb.ext'
    · rw [(addN_dn t u _).1,(sumT_dn t u).1]
    · rw [(addN_dn t u _).2.1,(sumT_dn t u).2]
    · rw [(addN_dn t u _).2.2,hbt,eb,ho];rfl
    · rw [addN_len,(sumT_ok ht.2.2).len,ht.2.2.len,(sumT_dn t u).1,(sumT_dn t u).2]
    · intro i hi
      rw [addN_len,htl] at hi
      rw [addN_vals t u _ (by omega),if_pos hi]
      unfold sumT
      rw [fill_vals _ _ _ (by show _≤(List.replicate (wordsD t.d t.n).length zeroF).length;rw [List.length_replicate,← ht.2.2.len];exact Nat.le_refl _),if_pos (by omega)]
      unfold sumP chkF
      have:=List.all_eq_true.1 ho i (List.mem_range.2 hi)
      rw [if_pos this]
  · have:okN t u (wordsD p.d p.n).length=false:=by simpa using ho
    rw [if_neg ho,this,if_pos (by simp)]
/-- Terms times a number. -/
def scaleL (k:S77) (ys:List S79):Option (List S79):=ys.foldl (fun acc y=>acc.bind fun q=>if (timesM k y.f1).2=true then some (q ++ [⟨y.f0,(timesM k y.f1).1⟩]) else none) (some [])
def okS (u:Tb) (k:S77) (m:Nat):Bool:=(List.range m).all fun i=>(timesM (u.vs.getD i zeroF) k).2
theorem scale_vals {u:Tb} (hu:u.Ok) (k:S77) (i:Nat) (hi:i < u.vs.length):(scaleT u k).vs.getD i zeroF=chkF (timesM (u.vs.getD i zeroF) k).1 (timesM (u.vs.getD i zeroF) k).2:=by
  unfold scaleT
  rw [fill_vals _ _ _ (by show _≤(List.replicate (wordsD u.d u.n).length zeroF).length;rw [List.length_replicate,← hu.len];exact Nat.le_refl _),if_pos hi]
  rfl
theorem scale_loop (u:Tb) (hu:u.Ok) (k:S77) (hk:okF k) (h0:k.f0 ≠ 0):∀ m,m≤u.vs.length →
    scaleL k (segT u 0 m)=if okS u k m=true then some (segT (scaleT u k) 0 m) else none:=by
  intro m
  induction m with
  | zero=>intro _;rfl
  | succ m ih =>
    intro hm
    have ih:=ih (by omega)
    have eok:okS u k (m+1)=(okS u k m && (timesM (u.vs.getD m zeroF) k).2):=by unfold okS;rw [List.range_succ,List.all_append];simp
    rw [eok,seg_add u 0 m 1,seg_one,Nat.zero_add,seg_add _ 0 m 1,seg_one,Nat.zero_add]
    unfold scaleL at ih ⊢
    rw [List.foldl_append,ih]
    by_cases ho:okS u k m=true
    · rw [if_pos ho,ho,Bool.true_and]
      have hv:=scale_vals hu k m (by omega)
      have ew:∀ x,termOf (scaleT u k) m=x ↔ (if ((scaleT u k).vs.getD m zeroF).f0 ≠ 0 then some (⟨(wordsA u.d u.n).getD m ByteArray.empty,(scaleT u k).vs.getD m zeroF⟩:S79) else none)=x:=by
        intro x
        unfold termOf
        rw [(scaleT_dn u k).1,(scaleT_dn u k).2]
      by_cases c:(u.vs.getD m zeroF).f0=0
      · have e2:u.vs.getD m zeroF=zeroF:=okF_zero (okF_at hu m) c
        have e1:termOf u m=none:=by unfold termOf;rw [if_neg (by simpa using c)]
        rw [e2,times_zero hk] at hv
        have e3:termOf (scaleT u k) m=none:=(ew _).2 (by rw [hv];rfl)
        rw [e1,e2,times_zero hk,e3]
        simp
      · have e1:termOf u m=some ⟨(wordsA u.d u.n).getD m ByteArray.empty,u.vs.getD m zeroF⟩:=by unfold termOf;rw [if_pos c]
        rw [e1,times_comm (u.vs.getD m zeroF) k]
        simp only [Option.toList_some,List.foldl_cons,List.foldl_nil,Option.bind_some]
        by_cases c2:(timesM k (u.vs.getD m zeroF)).2=true
        · rw [if_pos c2,if_pos c2]
          rw [times_comm,c2] at hv
          have e3:termOf (scaleT u k) m=some ⟨(wordsA u.d u.n).getD m ByteArray.empty,(timesM k (u.vs.getD m zeroF)).1⟩:=(ew _).2 (by
            rw [hv]
            show (if (timesM k (u.vs.getD m zeroF)).1.f0 ≠ 0 then _ else _)=_
            rw [if_pos (by rw [times_comm];exact times_ne (okF_at hu m) hk c h0)];rfl)
          rw [e3];rfl
        · rw [if_neg c2,if_neg c2]
    · have:okS u k m=false:=by simpa using ho
      rw [if_neg ho,this,Bool.false_and,if_neg (by simp)]
      cases termOf u m <;> rfl
theorem scale_terms (u:Tb) (hu:u.Ok) (hb:u.bad=false) (k:S77) (hk:okF k) (h0:k.f0 ≠ 0):scaleL k (termsT u)=outT (scaleT u k):=by
  have h:=scale_loop u hu k hk h0 _ (Nat.le_refl _)
  have eb:(scaleT u k).bad=!okS u k u.vs.length:=by
    unfold scaleT
    rw [fill_bad]
    show (u.bad || _)=_
    rw [hb]
    unfold okS scaleP
    simp [List.all_eq_not_any_not]
  rw [termsT_seg u,← hu.len,h]
  unfold outT
  rw [eb,termsT_seg,(scaleT_dn u k).1,(scaleT_dn u k).2,← hu.len]
  by_cases ho:okS u k u.vs.length=true
  · rw [if_pos ho,ho,if_neg (by simp)]
  · have:okS u k u.vs.length=false:=by simpa using ho
    rw [if_neg ho,this,if_pos (by simp)]
theorem sumT_bad {t u:Tb} (h:t.bad=true ∨ u.bad=true):(sumT t u).bad=true:=by
  unfold sumT
  rw [fill_bad]
  show ((t.bad || u.bad) || _)=true
  rcases h with h|h <;> simp [h]
theorem scaleT_bad {t:Tb} (a:S77) (h:t.bad=true):(scaleT t a).bad=true:=by
  unfold scaleT
  rw [fill_bad]
  show (t.bad || _)=true
  simp [h]
theorem timesT_bad {t u:Tb} (h:t.bad=true ∨ u.bad=true):(timesT t u).bad=true:=by
  unfold timesT
  apply wordsT_bad
  show (t.bad || u.bad)=true
  rcases h with h|h <;> simp [h]
/-- x and k times y together. -/
def addSL (x y:List S79) (k:S77):Option (List S79):=(scaleL k y).bind fun s=>addL x s
theorem addS_terms (t u p:Tb) (hp:Sz p.d p.n) (ht:Like t p) (hu:Like u p) (hbt:t.bad=false) (hbu:u.bad=false) (k:S77) (hk:okF k) (h0:k.f0 ≠ 0):addSL (termsT t) (termsT u) k=outT (sumT t (scaleT u k)):=by
  unfold addSL
  rw [scale_terms u hu.2.2 hbu k hk h0]
  cases hb:(scaleT u k).bad with
  | true =>
    unfold outT
    rw [hb,if_pos rfl,if_pos (sumT_bad (.inr hb))];rfl
  | false =>
    have e:outT (scaleT u k)=some (termsT (scaleT u k)):=by unfold outT;rw [if_neg (by rw [hb];simp)]
    rw [e,Option.bind_some]
    exact add_terms t (scaleT u k) p hp ht (scaleT_like k hu) hbt hb
end Go.Proofs.Ytaiefdhenikiiaa.Base
namespace Go.Proofs.Ytaiefdhenikiiaa.Base
open Go.RowKit Go.Proofs.YtaiefdhenikiiaaW.PrintWords Go.Proofs.YtaiefdhenikiiaaW.PrintLast Go.Proofs.YtaiefdhenikiiaaW.PrintMore
set_option linter.unusedVariables false
set_option linter.unusedSimpArgs false
theorem zeroT_good (d n:Nat):(zeroT d n).bad=false:=rfl
theorem commT_bad {t u:Tb} (h:(timesT t u).bad=true ∨ (timesT u t).bad=true):(commT t u).bad=true:=by
  unfold commT
  rcases h with h|h
  · exact sumT_bad (.inl h)
  · exact sumT_bad (.inr (scaleT_bad _ h))
theorem outT_good {t:Tb} (h:t.bad=false):outT t=some (termsT t):=by unfold outT;rw [if_neg (by rw [h];simp)]
theorem outT_bad {t:Tb} (h:t.bad=true):outT t=none:=by unfold outT;rw [if_pos h]
/-- The unit's terms. -/
theorem one_seg (t:Tb) (k:Nat) (hk:k < (wordsD t.d t.n).length) (hz:∀ i,i ≠ k→t.vs.getD i zeroF=zeroF):termsT t=(termOf t k).toList:=by
  rw [termsT_seg,seg_split t hk,seg_zero t 0 k (fun i _ h2=>by rw [hz i (by omega)];rfl),seg_zero t (k+1) _ (fun i h1 _=>by rw [hz i (by omega)];rfl)]
  simp
theorem zero_getD (d n i:Nat):(zeroT d n).vs.getD i zeroF=zeroF:=by
  show (List.replicate _ zeroF).getD i zeroF=zeroF
  rw [List.getD_eq_getElem?_getD,List.getElem?_replicate]
  split <;> rfl
theorem put_terms {d n:Nat} (hs:Sz d n) {l:List Nat} (hl:isD d n l) {a:S77} (h0:a.f0 ≠ 0):termsT ((zeroT d n).put (numN d l) a)=[⟨encW l,a⟩]:=by
  have hk:numN d l < (wordsD d n).length:=numN_lt _ _ _ hl
  have hkv:numN d l < (zeroT d n).vs.length:=by show _ < (List.replicate _ zeroF).length;rw [List.length_replicate];exact hk
  rw [one_seg _ (numN d l) hk (fun i hi=>by rw [put_getD _ _ hkv,if_neg hi,zero_getD])]
  have e4:(wordsA d n).getD (numN d l) ByteArray.empty=encW l:=by
    unfold wordsA
    rw [List.getD_eq_getElem?_getD,List.getElem?_map,wordsD_is _ _ _ hl];rfl
  unfold termOf
  rw [put_getD _ _ hkv,if_pos rfl,if_pos h0]
  show ([⟨(wordsA d n).getD (numN d l) ByteArray.empty,a⟩]:List S79)=_
  rw [e4]
theorem letter_terms {d n:Nat} (hs:Sz d n) {l:List Nat} (hl:isD d n l):termsT (letterT d n l)=[⟨encW l,oneF⟩]:=put_terms hs hl (by decide)
end Go.Proofs.Ytaiefdhenikiiaa.Base
namespace Go.Proofs.Ytaiefdhenikiiaa.Base
open Go.RowKit Go.Proofs.YtaiefdhenikiiaaW.PrintWords Go.Proofs.YtaiefdhenikiiaaW.PrintLast Go.Proofs.YtaiefdhenikiiaaW.PrintMore
set_option linter.unusedVariables false
set_option linter.unusedSimpArgs false
theorem sw2 (d:Nat) (hd:d≤3) (x1:Int) (ws:List ByteArray) (hws:∀ w ∈ ws,w.size≤20) (j:Nat) (hj:j < ws.length) (r:List ByteArray) (m:Nat):∀ (i:Nat) (acc:List ByteArray),i+m=d →
    acc.length+m≤8796093022208 →
    Ev (fun k=>qp_.l1 k (d:Int) x1 ws (acc ++ (List.range' i m).map (fun q=>ws.getD j ByteArray.empty ++ ltr q)) (wrap64 ((j:Int)+1))) r →
    Ev (fun k=>qp_.l2 k (d:Int) x1 ws acc (j:Int) (i:Int)) r:=by
  induction m with
  | zero =>
    intro i acc hi _ h
    refine Ev.step (fun k=>?_) h
    simp only [qp_.l2]
    rw [if_neg (by omega)]
    simp
  | succ m ih =>
    intro i acc hi hb h
    have hw:(ws.getD j ByteArray.empty).size≤20:=by
      rw [List.getD_eq_getElem?_getD,List.getElem?_eq_getElem hj]
      exact hws _ (List.getElem_mem hj)
    refine Ev.step (fun k=>?_) (ih (i+1) (acc ++ [ws.getD j ByteArray.empty ++ ltr i]) (by omega) (by simp;omega) ?_)
    · simp only [qp_.l2]
      have e1:wrap64 (48+(i:Int)) % 256=((48+i:Nat):Int):=by unfold wrap64;omega
      have e2:wrap64 ((i:Int)+1)=((i+1:Nat):Int):=by unfold wrap64;omega
      rw [if_pos (by omega),if_pos (by omega),if_pos (by omega)]
      simp only [Option.bind_some,e1,e2]
      have e3:rdOf ByteArray.empty ws (j:Int)=ws.getD j ByteArray.empty:=by simp [rdOf]
      rw [e3]
      have:=ltr_size i
      rw [if_pos (by show _+(ltr i).size≤_;omega),if_pos (by omega)]
      rfl
    · rw [List.append_assoc,List.range'_succ] at *
      exact h
theorem sw1 (d:Nat) (hd:d≤3) (x1:Int) (ws:List ByteArray) (hws:∀ w ∈ ws,w.size≤20) (hl:ws.length≤3486784401) (r:List ByteArray) (m:Nat):∀ (j:Nat) (acc:List ByteArray),j+m=ws.length →
    acc.length+m * d≤8796093022208 →
    Ev (fun k=>qp_.l0 k (d:Int) (wrap64 (x1 - 1)) (acc ++ nextW d (ws.drop j))) r →
    Ev (fun k=>qp_.l1 k (d:Int) x1 ws acc (j:Int)) r:=by
  induction m with
  | zero =>
    intro j acc hj _ h
    refine Ev.step (fun k=>?_) h
    simp only [qp_.l1]
    rw [if_neg (by omega),List.drop_eq_nil_of_le (by omega)]
    simp [nextW]
  | succ m ih =>
    intro j acc hj hb h
    have hlt:j < ws.length:=by omega
    have e2:wrap64 ((j:Int)+1)=((j+1:Nat):Int):=by unfold wrap64;omega
    rw [Nat.add_mul] at hb
    have h2:=sw2 d hd x1 ws hws j hlt r d 0 acc (by omega) (by omega) (by
      rw [e2]
      refine ih (j+1) _ (by omega) (by simp;omega) ?_
      rw [List.append_assoc]
      have:List.map (fun q=>ws.getD j ByteArray.empty ++ ltr q) (List.range' 0 d) ++ nextW d (ws.drop (j+1))=nextW d (ws.drop j):=by
        rw [List.drop_eq_getElem_cons hlt]
        simp only [nextW,List.flatMap_cons,List.range_eq_range']
        rw [List.getD_eq_getElem?_getD,List.getElem?_eq_getElem hlt];rfl
      rw [this]
      exact h)
    refine Ev.step (fun k=>?_) h2
    simp only [qp_.l1]
    rw [if_pos (by omega)]
    rfl
theorem sw0 (d:Nat) (hd:d≤3) (n:Nat):∀ m:Nat,m+n≤20→Ev (fun k=>qp_.l0 k (d:Int) (n:Int) (wordsL d m)) (wordsL d (m+n)):=by
  induction n with
  | zero =>
    intro m _
    refine Ev.step (f:=fun _=>some (wordsL d m)) (fun k=>?_) (Ev.now _)
    simp only [qp_.l0]
    rw [if_neg (by omega)]
  | succ n ih =>
    intro m hm
    have hb:=wordsL_bound (d:=d) (n:=m) hd (by omega)
    have h1:=sw1 d hd ((n+1:Nat):Int) (wordsL d m) (fun w hw=>by rw [wordsL_size d m w hw];omega) hb (wordsL d (m+(n+1))) (wordsL d m).length 0 [] (by omega)
      (by have:(wordsL d m).length * d≤(wordsL d m).length * 3:=Nat.mul_le_mul_left _ hd
          simp;omega) (by
      have e:wrap64 (((n+1:Nat):Int) - 1)=(n:Int):=by unfold wrap64;omega
      rw [e]
      have:=ih (m+1) (by omega)
      simp only [List.nil_append,List.drop_zero]
      rw [show m+1+n=m+(n+1) by omega] at this
      exact this)
    refine Ev.step (fun k=>?_) h1
    simp only [qp_.l0]
    rw [if_pos (by omega)]
    rfl
/-- The reference's words. -/
theorem spec_words (d n:Nat) (hd:d≤3) (hn:n≤20):Ev (fun k=>qp_.f k (d:Int) (n:Int)) (wordsL d n):=by
  have:=sw0 d hd n 0 (by omega)
  rw [Nat.zero_add] at this
  exact this
/-- All words of less than n letters. -/
def wordsU (d:Nat):Nat→List (List Nat)
  | 0=>[]
  | n+1=>wordsU d n ++ wordsN d n
theorem wordsU_D (d:Nat):∀ n,wordsU d (n+1)=wordsD d n
  | 0=>rfl
  | n+1=>by show wordsU d (n+1) ++ wordsN d (n+1)=wordsD d n ++ wordsN d (n+1);rw [wordsU_D d n]
theorem wordsU_le (d:Nat) {a b:Nat} (h:a≤b):∃ r,wordsU d b=wordsU d a ++ r:=by
  induction h with
  | refl=>exact ⟨[],by simp⟩
  | step _ ih =>
    obtain ⟨r,hr⟩:=ih
    exact ⟨r ++ wordsN d _,by show wordsU d _ ++ wordsN d _=_;rw [hr,List.append_assoc]⟩
theorem wordsN_isD {d n m:Nat} (h:m≤n) {l:List Nat} (hl:l ∈ wordsN d m):isD d n l:=by
  obtain ⟨h1,h2⟩:=wordsN_lt d m l hl
  exact ⟨by omega,h2⟩
theorem wordsN_small (d m:Nat) (hd:d≤3) (hm:m≤8):(wordsN d m).length≤6561:=by
  rw [wordsN_len]
  have h1:d ^ m≤3 ^ m:=Nat.pow_le_pow_left hd m
  have h2:3 ^ m≤3 ^ 8:=Nat.pow_le_pow_right (by omega) hm
  omega
theorem prodO_len (t u:Tb) (ls:List (List Nat)):∀ (q r:List S79),prodO t u ls (some q)=some r→r.length≤q.length+ls.length:=by
  induction ls with
  | nil=>intro q r h;obtain rfl:=Option.some.inj h;simp
  | cons l ls ih =>
    intro q r h
    have h:prodO t u ls ((wordO t u l).map fun s=>q ++ (if s.f0=0 then [] else [⟨encW l,s⟩]))=some r:=h
    cases hw:wordO t u l with
    | none=>rw [hw,Option.map_none,prodO_none] at h;cases h
    | some s =>
      rw [hw,Option.map_some] at h
      have:=ih _ _ h
      rw [List.length_append] at this
      have h2:(if s.f0=0 then ([]:List S79) else [⟨encW l,s⟩]).length≤1:=by split <;> simp
      rw [List.length_cons];omega
theorem prodO_snoc (t u:Tb) (a:List (List Nat)) (l:List Nat) {q:List S79} (h:prodO t u a (some [])=some q) {s:S77} (hs:wordO t u l=some s) :
    prodO t u (a ++ [l]) (some [])=some (q ++ (if s.f0=0 then [] else [⟨encW l,s⟩])):=by
  rw [prodO_append,h]
  show (wordO t u l).map _=_
  rw [hs];rfl
theorem prodO_fail (t u:Tb) (a b:List (List Nat)) (l:List Nat) (hs:wordO t u l=none):prodO t u (a ++ l :: b) (some [])=none:=by
  rw [prodO_append]
  cases prodO t u a (some []) with
  | none=>exact prodO_none _ _ _
  | some q =>
    show prodO t u b ((wordO t u l).map _)=none
    rw [hs];exact prodO_none _ _ _
theorem cutsO_fail {A B:Nat→S77} {j n:Nat} (h:j≤n) (hn:cutsO A B j=none):cutsO A B n=none:=by
  induction h with
  | refl=>exact hn
  | step _ ih=>show (cutsO A B _).bind _=none;rw [ih];rfl
theorem splus_bad (s:S77):Ev (fun k=>qq2_.f k s.f0 s.f1 0 0) (0,0,false):=by
  have e1:wrap64 (s.f1 * 0)=0:=by rw [Int.mul_zero];exact w64 (by omega) (by omega)
  refine Ev.congr (fun k=>?_) (Ev.now ((0:Int),(0:Int),false))
  unfold qq2_.f
  rw [e1]
  unfold qh1_.f
  rw [if_pos rfl];rfl
end Go.Proofs.Ytaiefdhenikiiaa.Base
namespace Go.Proofs.Ytaiefdhenikiiaa.Base
open Go.RowKit Go.Proofs.YtaiefdhenikiiaaW.PrintWords Go.Proofs.YtaiefdhenikiiaaW.PrintLast Go.Proofs.YtaiefdhenikiiaaW.PrintMore
set_option linter.unusedVariables false
set_option linter.unusedSimpArgs false
def tellL:Option (List S79)→List S79 × Bool
  | some r=>(r,true)
  | none=>([],false)
def okL (l:List S79):Prop:=∀ x ∈ l,okF x.f1
theorem okL_nil:okL []:=fun x hx=>by cases hx
theorem okL_snoc {l:List S79} {x:S79} (h:okL l) (hx:okF x.f1):okL (l ++ [x]):=fun y hy=>by
  rcases List.mem_append.1 hy with h1|h1
  · exact h y h1
  · obtain rfl:=List.mem_singleton.1 h1;exact hx
theorem putL_ok {l r:List S79} {w:ByteArray} {a:S77} (hl:okL l) (ha:okF a) (h:putL l w a=some r):okL r∧r.length≤l.length+1:=by
  have one:∀ b:S77,okF b→okL (if b.f0=0 then [] else [⟨w,b⟩])∧(if b.f0=0 then ([]:List S79) else [⟨w,b⟩]).length≤1:=fun b hb=>by
    split
    · exact ⟨okL_nil,by simp⟩
    · exact ⟨fun y hy=>by obtain rfl:=List.mem_singleton.1 hy;exact hb,by simp⟩
  have all:∀ (i j:Nat) (b:S77),okF b→i≤j→okL (l.take i ++ (if b.f0=0 then [] else [⟨w,b⟩]) ++ l.drop j)∧(l.take i ++ (if b.f0=0 then ([]:List S79) else [⟨w,b⟩]) ++ l.drop j).length≤l.length+1:=fun i j b hb hij=>by
    obtain ⟨o1,o2⟩:=one b hb
    refine ⟨fun y hy=>?_,?_⟩
    · rcases List.mem_append.1 hy with h1|h1
      · rcases List.mem_append.1 h1 with h2|h2
        · exact hl y (List.mem_of_mem_take h2)
        · exact o1 y h2
      · exact hl y (List.mem_of_mem_drop h1)
    · rw [List.length_append,List.length_append,List.length_take,List.length_drop];omega
  unfold putL at h
  cases hy:l[putAt l w]? with
  | none =>
    rw [hy] at h
    obtain rfl:=Option.some.inj h
    exact all _ _ a ha (Nat.le_refl _)
  | some y =>
    rw [hy] at h
    simp only at h
    split at h
    · split at h
      · next c =>
        obtain rfl:=Option.some.inj h
        exact all _ _ _ (plus_okF c) (Nat.le_succ _)
      · cases h
    · obtain rfl:=Option.some.inj h
      exact all _ _ a ha (Nat.le_refl _)
theorem scaleL_step {k:S77} {y:List S79} {i:Nat} (h:i < y.length):scaleL k (y.take (i+1))=(scaleL k (y.take i)).bind fun q=>if (timesM k y[i].f1).2=true then some (q ++ [⟨y[i].f0,(timesM k y[i].f1).1⟩]) else none:=by
  unfold scaleL
  rw [List.take_succ_eq_append_getElem h,List.foldl_append];rfl
theorem scaleL_none (k:S77) (a b:List S79) (h:scaleL k a=none):scaleL k (a ++ b)=none:=by
  unfold scaleL at h ⊢
  rw [List.foldl_append,h]
  induction b with
  | nil=>rfl
  | cons x b ih=>exact ih
theorem scaleL_ok {k:S77} (y:List S79):∀ i,i≤y.length→∀ q,scaleL k (y.take i)=some q→okL q∧q.length=i:=by
  intro i
  induction i with
  | zero=>intro _ q h;rw [List.take_zero] at h;obtain rfl:=Option.some.inj h;exact ⟨okL_nil,rfl⟩
  | succ i ih =>
    intro hi q h
    rw [scaleL_step (by omega)] at h
    cases hq:scaleL k (y.take i) with
    | none=>rw [hq] at h;cases h
    | some p =>
      rw [hq] at h
      obtain ⟨h1,h2⟩:=ih (by omega) p hq
      simp only [Option.bind_some] at h
      split at h
      · next c =>
        obtain rfl:=Option.some.inj h
        exact ⟨okL_snoc h1 (times_okF c),by rw [List.length_append,List.length_singleton];omega⟩
      · cases h
theorem addL_step {x s:List S79} {i:Nat} (h:i < s.length):addL x (s.take (i+1))=(addL x (s.take i)).bind fun q=>putL q s[i].f0 s[i].f1:=by
  unfold addL
  rw [List.take_succ_eq_append_getElem h,List.foldl_append];rfl
theorem addL_none (x a b:List S79) (h:addL x a=none):addL x (a ++ b)=none:=by
  unfold addL at h ⊢
  rw [List.foldl_append,h]
  induction b with
  | nil=>rfl
  | cons y b ih=>exact ih
theorem addL_ok {x s:List S79} (hx:okL x) (hs:okL s):∀ i,i≤s.length→∀ q,addL x (s.take i)=some q→okL q∧q.length≤x.length+i:=by
  intro i
  induction i with
  | zero=>intro _ q h;rw [List.take_zero] at h;obtain rfl:=Option.some.inj h;exact ⟨hx,Nat.le_refl _⟩
  | succ i ih =>
    intro hi q h
    rw [addL_step (by omega)] at h
    cases hq:addL x (s.take i) with
    | none=>rw [hq] at h;cases h
    | some p =>
      rw [hq] at h
      obtain ⟨h1,h2⟩:=ih (by omega) p hq
      obtain ⟨h3,h4⟩:=putL_ok h1 (hs _ (List.getElem_mem (by omega))) h
      exact ⟨h3,by omega⟩
end Go.Proofs.Ytaiefdhenikiiaa.Base
namespace Go.Proofs.Ytaiefdhenikiiaa.Base
open Go.RowKit Go.Proofs.YtaiefdhenikiiaaW.PrintWords Go.Proofs.YtaiefdhenikiiaaW.PrintLast Go.Proofs.YtaiefdhenikiiaaW.PrintMore
set_option linter.unusedVariables false
set_option linter.unusedSimpArgs false
/-- A series and a word of whether all fits are handed back. -/
def OkRes (w:World) (d n:Int) (l:List S79) (b:Bool) (e:Ending) (w':World):Prop:=∃ v:Value,e=.returned (.tuple #[.agg #[.int .i64 d,.int .i64 n,v],.bool b])∧TermsR w' w.heap.size v l∧Below w.heap.size w w'
/-- The terms of a table,if it is not bad. -/
def OutR (w:World) (d n:Int) (o:Option (List S79)):Ending→World→Prop:=match o with
  | none=>OkRes w 0 0 [] false
  | some l=>OkRes w d n l true
/-- Terms in memory. -/
structure TmsC (W:World) (A:Option Addr) (c:Nat) (l:List S79):Prop where
  row:Kd.C k79 W A l.length l
  cap:l.length≤c
  len:l.length≤1048576
theorem TmsC.below {W W':World} {A:Option Addr} {c:Nat} {l:List S79} (H:TmsC W A c l) (hb:Below W.heap.size W W'):TmsC W' A c l:=⟨Kd.qv1_ H.row hb,H.cap,H.len⟩
theorem TmsC.of {W:World} {B c m:Nat} {A:Option Addr} {l:List S79} (h:TermsR W B (.slice A m c) l) (hl:l.length≤1048576):TmsC W A c l∧m=l.length:=by
  obtain ⟨h1,h2,h3⟩:=Kd.qg3_ h
  subst h1
  exact ⟨⟨h3,h2,hl⟩,rfl⟩
theorem valL_hit {x:S79} {l:List S79} {s:ByteArray} (h:x.f0=s):valL (x :: l) s=x.f1:=by unfold valL;rw [List.find?_cons_of_pos (by simpa using h)]
theorem valL_miss {x:S79} {l:List S79} {s:ByteArray} (h:¬ x.f0=s):valL (x :: l) s=valL l s:=by unfold valL;rw [List.find?_cons_of_neg (by simpa using h)]
set_option maxHeartbeats 8000000 in
set_option maxRecDepth 100000 in
theorem valX (w:World) (D N:Int) {A:Option Addr} {c:Nat} {lt:List S79} (H:TmsC w A c lt) (s:ByteArray) (a:S77) (hv:valL lt s=a) :
    Calls Try.prog 186 #[.agg #[.int .i64 D,.int .i64 N,.slice A lt.length c],.string s] w fun e w'=>e=.returned (.agg #[.int .i64 a.f0,.int .i64 a.f1])∧w'=(w.alloc (.cells #[.int .i64 D,.int .i64 N,.slice A lt.length c] 38)).alloc (.cells #[.int .i64 a.f0,.int .i64 a.f1] 77):=by
  have hu:=Try.underlying38
  have hu2:=Try.underlying79
  have hu3:=Try.underlying77
  have HR:=Aside0.mk H
  clear H
  go_enter Try.func186,Try.ntmps186
  go_wp2
  go_loopg [5] lt.length (fun gg v5 wr=>∃ j:Nat,j≤lt.length∧lt.length - j≤gg∧v5=.int .i64 j∧Aside0 (valL (lt.drop j) s=a)∧wr=(w.alloc (.cells #[.int .i64 D,.int .i64 N,.slice A lt.length c] 38)).alloc (.cells #[.int .i64 0,.int .i64 0] 77))
  case atStart=>exact ⟨0,Nat.zero_le _,by omega,rfl,⟨by rw [List.drop_zero];exact hv⟩,rfl⟩
  case round =>
    clear hv
    obtain ⟨j,hj,hg,rfl,HV,rfl⟩:=hrel
    by_cases hlt:j < lt.length
    · have hltz:(j:Int) < (lt.length:Int):=by omega
      obtain ⟨ad,rfl,t0,t1,t2⟩:=at_T79 (Kd.qv1_ HR.out.row (qb_ (qb_ (Below.refl w.heap.size w) (.cells #[.int .i64 D,.int .i64 N,.slice A lt.length c] 38)) (.cells #[.int .i64 0,.int .i64 0] 77))) (j:Int) (by omega) (by omega)
      have e1:rd_T79 lt (j:Int)=lt[j]:=by simp [rd_T79,List.getD_eq_getElem?_getD,List.getElem?_eq_getElem hlt]
      rw [e1,Int.toNat_natCast] at t0 t1 t2
      have hd:=HV.out
      rw [List.drop_eq_getElem_cons hlt] at hd
      by_cases c1:lt[j].f0=s
      · rw [valL_hit c1] at hd
        obtain ⟨x,hx⟩:∃ x,x=lt[j]:=⟨_,rfl⟩
        rw [← hx] at t0 t1 t2 hd c1
        subst hd
        rw [c1] at t0
        clear hx e1 c1
        go_wp2
        go_returns
        refine ⟨rfl,?_⟩
        rfl
      · rw [valL_miss c1] at hd
        have HD:=Aside0.mk hd
        have c2:(lt[j].f0.toList == s.toList)=false:=by
          rw [beq_eq_false_iff_ne]
          intro h;rw [ByteArray.toList_eq,ByteArray.toList_eq] at h;exact c1 (ByteArray.ext (Array.toList_inj.1 h))
        have HL:=Aside0.mk HR.out.len
        clear hd e1
        go_wp2
        go_roundg (lt.length - (j+1))
        case measure=>omega
        case rel=>exact ⟨j+1,by omega,by omega,by have:=HL.out;first|rfl|(rw [w64 (by omega) (by omega)];rfl),HD,rfl⟩
    · have hltz:¬ (j:Int) < (lt.length:Int):=by omega
      have hd:=HV.out
      rw [List.drop_eq_nil_of_le (by omega)] at hd
      obtain rfl:zeroF=a:=hd
      go_wp2
      go_returns
      exact ⟨rfl,rfl⟩
theorem zeroS (W:World) (a:S77):Calls Try.prog 141 #[.agg #[.int .i64 a.f0,.int .i64 a.f1]] W fun e w'=>e=.returned (.bool (a.f0 == 0))∧Below W.heap.size W w':=qu2_.calls _ _ _ _ rfl
/-- A fraction as_ the reference tells it. -/
def tellF (p:S77 × Bool):S77:=if p.2=true then p.1 else ⟨0,0⟩
theorem timesFS (W:World) {a b:S77} (ha:okF a) (hb:okF b):Calls Try.prog 178 #[.agg #[.int .i64 a.f0,.int .i64 a.f1],.agg #[.int .i64 b.f0,.int .i64 b.f1]] W fun e w'=>e=.returned (.tuple #[.agg #[.int .i64 (tellF (timesM a b)).f0,.int .i64 (tellF (timesM a b)).f1],.bool (timesM a b).2])∧Below W.heap.size W w':=by
  obtain ⟨k,hk⟩:=(stimes_is ha hb).rounds
  refine qh2_.calls k _ _ _ _ _ _ _ _ ?_
  rw [hk]
  unfold toldM tellF
  cases (timesM a b).2 <;> rfl
theorem plusFS (W:World) {a b:S77} (ha:okF a) (hb:okF b):Calls Try.prog 187 #[.agg #[.int .i64 a.f0,.int .i64 a.f1],.agg #[.int .i64 b.f0,.int .i64 b.f1]] W fun e w'=>e=.returned (.tuple #[.agg #[.int .i64 (tellF (plusM a b)).f0,.int .i64 (tellF (plusM a b)).f1],.bool (plusM a b).2])∧Below W.heap.size W w':=by
  obtain ⟨k,hk⟩:=(splus_is ha hb).rounds
  refine qq2_.calls k _ _ _ _ _ _ _ _ ?_
  rw [hk]
  unfold toldM tellF
  cases (plusM a b).2 <;> rfl
theorem plusBadS (W:World) (a:S77):Calls Try.prog 187 #[.agg #[.int .i64 a.f0,.int .i64 a.f1],.agg #[.int .i64 0,.int .i64 0]] W fun e w'=>e=.returned (.tuple #[.agg #[.int .i64 0,.int .i64 0],.bool false])∧Below W.heap.size W w':=by
  obtain ⟨k,hk⟩:=(splus_bad a).rounds
  exact qq2_.calls k _ _ _ _ _ _ _ _ hk
theorem wordsS (W:World) (d m:Nat) (hd:d≤3) (hm:m≤8):Calls Try.prog 185 #[.int .i64 (d:Int),.int .i64 (m:Int)] W fun e w'=>∃ A c,e=.returned (.slice A (wordsN d m).length c)∧WordsAt w' W.heap.size A c ((wordsN d m).map encW)∧Below W.heap.size W w':=by
  obtain ⟨k,hk⟩:=(spec_words d m hd (by omega)).rounds
  refine (qp_.calls k _ _ _ _ hk).mono ?_
  rintro e w' ⟨v,rfl,hv,hb⟩
  rw [wordsL_enc] at hv
  obtain ⟨A,c,rfl,h⟩:=WordsAt.of hv
  exact ⟨A,c,by rw [List.length_map],h,hb⟩
theorem emptyS (W:World) (D N:Int) {A:Option Addr} {c:Nat} {l:List S79} (H:TmsC W A c l):Calls Try.prog 108 #[.agg #[.int .i64 D,.int .i64 N,.slice A l.length c]] W fun e w'=>∃ v:Value,e=.returned (.agg #[.int .i64 D,.int .i64 N,v])∧TermsR w' W.heap.size v []∧Below W.heap.size W w' :=
  qc3_.calls _ _ _ _ _ _ _ _ _ H.row H.cap rfl
theorem oneS (W:World) (m:Int):Calls Try.prog 124 #[.int .i64 m] W fun e w'=>e=.returned (.agg #[.int .i64 m,.int .i64 1])∧Below W.heap.size W w':=qf3_.calls _ _ _ _ rfl
end Go.Proofs.Ytaiefdhenikiiaa.Base
namespace Go.Proofs.Ytaiefdhenikiiaa.Base
open Go.RowKit Go.Proofs.YtaiefdhenikiiaaW.PrintWords Go.Proofs.YtaiefdhenikiiaaW.PrintLast Go.Proofs.YtaiefdhenikiiaaW.PrintMore
set_option linter.unusedVariables false
set_option linter.unusedSimpArgs false
def lenF (m:Nat):S77:=⟨1,m⟩
theorem lenF_ok {m:Nat} (h1:1≤m) (h2:m≤1000):okF (lenF m):=by
  refine ⟨?_,?_,by show (-1000000000:Int)≤1;omega,by show (1:Int)≤1000000000;omega,by simp [lenF]⟩
  · show (1:Int)≤(m:Int);omega
  · show (m:Int)≤1000000000;omega
theorem over_is {a:S77} (ha:okF a) {m:Nat} (h1:1≤m) (h2:m≤1000):Ev (fun k=>qv2_.f k a.f0 a.f1 (m:Int) 1) (toldM (timesM a (lenF m))):=by
  obtain ⟨g1,g2,g3⟩:=okF_mul ha (lenF_ok h1 h2)
  have e1:a.f0 * (lenF m).f0=a.f0 * 1:=rfl
  have e2:a.f1 * (lenF m).f1=a.f1 * (m:Int):=rfl
  have:=stimes_is ha (lenF_ok h1 h2)
  refine Ev.congr (fun k=>?_) this
  unfold qv2_.f qh2_.f
  rfl
def dynA (x:S79):S77 × Bool:=timesM x.f1 (lenF (decW x.f0).length)
def dynStep (d n:Nat) (o:Tb) (x:S79):Tb:=if (decW x.f0).length=0 then o else sumT (o.chk (dynA x).2) (scaleT (leftT d n (decW x.f0)) (chkF (dynA x).1 (dynA x).2))
def dynT (d n:Nat) (l:List S79):Tb:=l.foldl (dynStep d n) (zeroT d n)
theorem dyn_succ {d n:Nat} {l:List S79} {i:Nat} (h:i < l.length):dynT d n (l.take (i+1))=dynStep d n (dynT d n (l.take i)) l[i]:=by
  unfold dynT
  rw [List.take_succ_eq_append_getElem h,List.foldl_append];rfl
theorem dynStep_like {d n:Nat} {o:Tb} (x:S79) (h:Like o (zeroT d n)):Like (dynStep d n o x) (zeroT d n):=by
  unfold dynStep
  split
  · exact h
  · exact sumT_like ⟨h.1,h.2.1,h.2.2.chk _⟩
theorem dynT_like {d n:Nat} (hs:Sz d n) (l:List S79):Like (dynT d n l) (zeroT d n):=by
  have key:∀ (l:List S79) (o:Tb),Like o (zeroT d n)→Like (l.foldl (dynStep d n) o) (zeroT d n):=by
    intro l
    induction l with
    | nil=>intro o ho;exact ho
    | cons x l ih=>intro o ho;exact ih _ (dynStep_like x ho)
  exact key l _ ⟨rfl,rfl,zeroT_ok hs⟩
theorem dynStep_bad {d n:Nat} {o:Tb} (x:S79) (h:o.bad=true):(dynStep d n o x).bad=true:=by
  unfold dynStep
  split
  · exact h
  · exact sumT_bad (Or.inl (by show (o.bad || _)=true;rw [h];rfl))
theorem dynT_bad {d n:Nat} {l:List S79} {i:Nat} (h:(dynT d n (l.take i)).bad=true):(dynT d n l).bad=true:=by
  have key:∀ (r:List S79) (o:Tb),o.bad=true→(r.foldl (dynStep d n) o).bad=true:=by
    intro r
    induction r with
    | nil=>intro o ho;exact ho
    | cons x r ih=>intro o ho;exact ih _ (dynStep_bad x ho)
  conv=>lhs;rw [← List.take_append_drop i l]
  unfold dynT at h ⊢
  rw [List.foldl_append]
  exact key _ _ h
def dynR (D N:Int) (l:List S79):Int × Int × List S79 × Int:=if serB D N l=true then serR (dynT D.toNat N.toNat l) else (0,0,[],1)
theorem dynR_len (D N:Int) (l:List S79):(dynR D N l).2.2.1.length≤2000000:=by
  unfold dynR
  split
  · next h =>
    obtain ⟨d,n,rfl,rfl,hs,_⟩:=serB_nat h
    rw [Int.toNat_natCast,Int.toNat_natCast]
    exact serR_len (dynT_like hs l) hs
  · simp
end Go.Proofs.Ytaiefdhenikiiaa.Base
namespace Go.Proofs.Ytaiefdhenikiiaa.Base
open Go.RowKit Go.Proofs.YtaiefdhenikiiaaW.PrintWords Go.Proofs.YtaiefdhenikiiaaW.PrintLast Go.Proofs.YtaiefdhenikiiaaW.PrintMore
set_option linter.unusedVariables false
set_option linter.unusedSimpArgs false
theorem prod_failAt {t u:Tb} {d n m i:Nat} (hm:m≤n) (hi:i < (wordsN d m).length) (h:wordO t u (wordsN d m)[i]=none):prodO t u (wordsD d n) (some [])=none:=by
  obtain ⟨r,hr⟩:=wordsU_le d (show m+1≤n+1 by omega)
  rw [← wordsU_D,hr,show wordsU d (m+1)=wordsU d m ++ wordsN d m from rfl]
  have e:wordsN d m=(wordsN d m).take i ++ (wordsN d m)[i] :: (wordsN d m).drop (i+1):=by
    rw [← List.drop_eq_getElem_cons hi,List.take_append_drop]
  have e2:∀ (X p q:List (List Nat)) (x:List Nat),X=p ++ x :: q→wordsU d m ++ X ++ r=(wordsU d m ++ p) ++ x :: (q ++ r):=by
    intro X p q x h
    rw [h];simp
  rw [e2 _ _ _ _ e]
  exact prodO_fail t u _ _ _ h
/-- What stands in memory while products are summed. -/
structure StS (w W:World) (bo:Nat) (d n:Int) (A:Option Addr) (ca la:Nat) (B:Option Addr) (cb lb:Nat) (vo:Value) (acc:List S79):Prop where
  sx:SrAt W w.heap.size d n (.slice A la ca)
  sy:SrAt W (w.heap.size+1) d n (.slice B lb cb)
  sr:SrAt W (w.heap.size+2) 0 0 (.slice none 0 0)
  so:SrAt W bo d n vo
  ro:TermsR W w.heap.size vo acc
  be:Below w.heap.size w W
  lo:w.heap.size+2 < bo
theorem StS.below {w W W':World} {bo:Nat} {d n:Int} {A B:Option Addr} {ca la cb lb:Nat} {vo:Value} {acc:List S79} (H:StS w W bo d n A ca la B cb lb vo acc) (hb:Below W.heap.size W W'):StS w W' bo d n A ca la B cb lb vo acc :=
  ⟨H.sx.below hb,H.sy.below hb,H.sr.below hb,H.so.below hb,Kd.qm2_ H.ro hb,qj_ H.be hb,H.lo⟩
theorem keep7 {w W:World} {a1 a2 a3 a4 a5 a6 a7:Addr} {v1 v2 v3 v4 v5 v6 v7:Value} (p1:w.cell? a1=some v1) (p2:w.cell? a2=some v2) (p3:w.cell? a3=some v3) (p4:w.cell? a4=some v4) (p5:w.cell? a5=some v5) (p6:w.cell? a6=some v6) (p7:w.cell? a7=some v7) (hb:Below w.heap.size w W) :
    W.cell? a1=some v1∧W.cell? a2=some v2∧W.cell? a3=some v3∧W.cell? a4=some v4∧W.cell? a5=some v5∧W.cell? a6=some v6∧W.cell? a7=some v7 :=
  ⟨qq_ hb p1,qq_ hb p2,qq_ hb p3,qq_ hb p4,qq_ hb p5,qq_ hb p6,qq_ hb p7⟩
theorem FrAt.put3 {w:World} {b:Nat} {s:S77} (h:FrAt w b s) (a:S77):FrAt ((w.setCell ⟨b,0,none⟩ (.int .i64 a.f0)).setCell ⟨b,1,none⟩ (.int .i64 a.f1)) b a:=qt_ (qt_ h 0 _) 1 _
set_option maxHeartbeats 32000000 in
set_option maxRecDepth 100000 in
theorem timesS (w:World) (d n:Nat) (hs:Sz d n) {t u:Tb} (ht:Like t (zeroT d n)) (hu:Like u (zeroT d n)) (hbt:t.bad=false) (hbu:u.bad=false) {A B:Option Addr} {ca cb:Nat} (hA:TmsC w A ca (termsT t)) (hB:TmsC w B cb (termsT u)) :
    Calls Try.prog 133 #[.agg #[.int .i64 (d:Int),.int .i64 (n:Int),.slice A (termsT t).length ca],.agg #[.int .i64 (d:Int),.int .i64 (n:Int),.slice B (termsT u).length cb]] w (OutR w d n (outT (timesT t u))):=by
  have hR0:=times_terms t u (zeroT d n) hs ht hbt hbu
  rw [← hR0]
  obtain ⟨R,hR⟩:∃ R,R=prodO t u (wordsD d n) (some []):=⟨_,rfl⟩
  show Calls _ _ _ _ (OutR w d n (prodO t u (wordsD d n) (some [])))
  rw [← hR]
  have HRR:=Aside0.mk hR
  have HVt:=Aside0.mk (show ∀ l,isD d n l→valL (termsT t) (encW l)=t.val l from fun l hl=>valL_terms ht.2.2 (by rw [ht.1,ht.2.1];exact hl))
  have HVu:=Aside0.mk (show ∀ l,isD d n l→valL (termsT u) (encW l)=u.val l from fun l hl=>valL_terms hu.2.2 (by rw [hu.1,hu.2.1];exact hl))
  have HFt:=Aside0.mk (show ∀ l,okF (t.val l) from fun l=>ht.2.2.val l)
  have HFu:=Aside0.mk (show ∀ l,okF (u.val l) from fun l=>hu.2.2.val l)
  generalize termsT t=lt at hA HVt ⊢
  generalize termsT u=lu at hB HVu ⊢
  have HA:=Aside0.mk hA
  have HB:=Aside0.mk hB
  have HS:=Aside0.mk hs
  have hu:=Try.underlying38
  have hu2:=Try.underlying79
  have hu3:=Try.underlying77
  clear hR hR0 ht hbt hbu hA hB hs
  go_enter Try.func133,Try.ntmps133
  go_wp2_with (go_at_call 108;refine (emptyS _ d n (HA.out.below (qb_ (qb_ (qb_ (Below.refl _ _) _) _) _))).mono ?_;rintro e w1 ⟨v,rfl,hv,hb⟩;obtain ⟨A1,c1,rfl⟩:=Kd.qf2_ hv;have S1:SrAt w1 w.heap.size d n (.slice A lt.length ca):=qm_ (old_at (old_at (new_at rfl))) hb;have S2:SrAt w1 (w.heap.size+1) d n (.slice B lu.length cb):=qm_ (old_at (new_at (by simp))) hb;have S3:SrAt w1 (w.heap.size+2) 0 0 (.slice none 0 0):=qm_ (new_at (by simp)) hb;have HB1:=Aside0.mk (show Below w.heap.size w w1 from qj_ (qb_ (qb_ (qb_ (Below.refl _ _) _) _) _) hb);have HL1:=Aside0.mk (show w.heap.size+2 < w1.heap.size from S3.lt);have HS1:=Aside0.mk S1;have HS2:=Aside0.mk S2;have HS3:=Aside0.mk S3;have HV1:=Aside0.mk (show TermsR w1 w.heap.size (.slice A1 ([]:List S79).length c1) [] from Kd.qn2_ hv (qk_ (qb_ (qb_ (qb_ (Below.refl w.heap.size w) _) _) _)));clear S1 S2 S3 hv hb)
  go_loopg [7] (n+1) (fun gg v7 wr=>∃ (m:Nat) (vo:Value) (acc:List S79),m≤n+1∧n+1 - m≤gg∧v7=.int .i64 m∧Aside0 (StS w wr w1.heap.size d n A ca lt.length B cb lu.length vo acc)∧Aside0 (prodO t u (wordsU d m) (some [])=some acc))
  case atStart =>
    refine ⟨0,.slice A1 0 c1,[],Nat.zero_le _,by omega,rfl,⟨⟨?_,?_,?_,?_,?_,?_,HL1.out⟩⟩,⟨rfl⟩⟩
    · exact HS1.out.alloc _
    · exact HS2.out.alloc _
    · exact HS3.out.alloc _
    · exact new_at rfl
    · exact Kd.qp1_ HV1.out _
    · exact qb_ HB1.out _
  case round =>
    clear HS1 HS2 HS3 HV1
    obtain ⟨m,vo,acc,hm,hg,rfl,HI,HP⟩:=hrel
    by_cases hlt:m≤n
    · have hz:(m:Int)≤(n:Int):=by omega
      have x0:=HI.out.sx.c0
      have x1:=HI.out.sx.c1
      have hlen:=Aside0.mk (wordsN_small d m HS.out.d3 (by have:=HS.out.n8;omega))
      have HML:=Aside0.mk hlt
      have HWL:=Aside0.mk (show ((wordsN d m).map encW).length=(wordsN d m).length from List.length_map _)
      go_wp2_with (go_at_call 185;refine (wordsS _ d m HS.out.d3 (by have:=HS.out.n8;have:=HML.out;omega)).mono ?_;rintro e w2 ⟨Aw,cw,rfl,HW,hb⟩;have HI2:=Aside0.mk (HI.out.below hb);have HW2:=Aside0.mk (show ∃ Bw,WordsAt w2 Bw Aw cw ((wordsN d m).map encW) from ⟨_,HW⟩);clear HW hb)
      clear x0 x1
      go_loopg [9] (wordsN d m).length (fun gg v9 wi=>∃ (i:Nat) (vo:Value) (acc:List S79),i≤(wordsN d m).length∧(wordsN d m).length - i≤gg∧v9=.int .i64 i∧Aside0 (StS w wi w1.heap.size d n A ca lt.length B cb lu.length vo acc)∧Aside0 (prodO t u (wordsU d m ++ (wordsN d m).take i) (some [])=some acc)∧Aside0 (∃ Bw,WordsAt wi Bw Aw cw ((wordsN d m).map encW)))
      case atStart=>exact ⟨0,vo,acc,Nat.zero_le _,by omega,rfl,HI2,⟨by rw [List.take_zero,List.append_nil];exact HP.out⟩,HW2⟩
      case round =>
        clear HI HP HI2 HW2
        obtain ⟨i,vo,acc,hi,hgi,rfl,HI,HP,HW⟩:=hrel
        by_cases hil:i < (wordsN d m).length
        · have hiz:(i:Int) < ((wordsN d m).length:Int):=by omega
          obtain ⟨Bw,HWb⟩:=HW.out
          obtain ⟨ad,rfl,hx⟩:=HWb.at i (by rw [HWL.out];exact hil)
          obtain ⟨l,hl⟩:∃ l,l=(wordsN d m)[i]:=⟨_,rfl⟩
          have hxl:((wordsN d m).map encW)[i]'(by rw [HWL.out];exact hil)=encW l:=by rw [hl];simp
          rw [hxl] at hx
          have HLL:=Aside0.mk hl
          have HD:=Aside0.mk (show isD d n l by rw [hl];exact wordsN_isD HML.out (List.getElem_mem hil))
          have hsz:(encW l).size=l.length:=encW_size l
          have hll:l.length≤8:=by have:=HD.out.1;have:=HS.out.n8;omega
          have HX:=Aside0.mk hx
          have HWB:=Aside0.mk HWb
          clear hl hxl HWb
          go_wp2_with (go_at_call 124;refine (oneS _ 0).mono ?_;rintro e w3 ⟨rfl,hb⟩;have HI3:=Aside0.mk (HI.out.below hb);have HX3:=Aside0.mk (qq_ hb HX.out);have HW3:=Aside0.mk (WordsAt.below HWB.out hb);clear hb)
          go_loopg [11] (l.length+1) (fun gg v11 wj=>∃ (j:Nat) (s:S77),j≤l.length+1∧l.length+1 - j≤gg∧v11=.int .i64 j∧Aside0 (FrAt wj w3.heap.size s)∧Aside0 (cutsO (fun i=>t.val (l.take i)) (fun i=>u.val (l.drop i)) j=some s)∧Aside0 (Below w3.heap.size w3 wj))
          case atStart=>exact ⟨0,zeroF,Nat.zero_le _,by omega,rfl,⟨FrAt.new _ zeroF⟩,⟨rfl⟩,⟨qb_ (Below.refl _ _) _⟩⟩
          case round =>
            obtain ⟨j,s,hj,hgj,rfl,HF,HC,HBj⟩:=hrel
            have hxj:=qq_ HBj.out HX3.out
            by_cases hjl:j < l.length+1
            · have hjz:(j:Int)≤(l.length:Int):=by omega
              obtain ⟨a,ha⟩:∃ a,a=t.val (l.take j):=⟨_,rfl⟩
              obtain ⟨b,hb0⟩:∃ b,b=u.val (l.drop j):=⟨_,rfl⟩
              have HVA:=Aside0.mk (show ∀ W,TmsC W A ca lt→Calls Try.prog 186 #[.agg #[.int .i64 (d:Int),.int .i64 (n:Int),.slice A lt.length ca],.string ((encW l).extract 0 j)] W (fun e w'=>e=.returned (.agg #[.int .i64 a.f0,.int .i64 a.f1])∧w'=(W.alloc (.cells #[.int .i64 (d:Int),.int .i64 (n:Int),.slice A lt.length ca] 38)).alloc (.cells #[.int .i64 a.f0,.int .i64 a.f1] 77)) from fun W H=>valX W _ _ H _ a (by rw [extract_enc l 0 j (Nat.zero_le _),List.drop_zero,ha];exact HVt.out _ (isD_take HD.out j)))
              have HVB:=Aside0.mk (show ∀ W,TmsC W B cb lu→Calls Try.prog 186 #[.agg #[.int .i64 (d:Int),.int .i64 (n:Int),.slice B lu.length cb],.string ((encW l).extract j l.length)] W (fun e w'=>e=.returned (.agg #[.int .i64 b.f0,.int .i64 b.f1])∧w'=(W.alloc (.cells #[.int .i64 (d:Int),.int .i64 (n:Int),.slice B lu.length cb] 38)).alloc (.cells #[.int .i64 b.f0,.int .i64 b.f1] 77)) from fun W H=>valX W _ _ H _ b (by rw [extract_enc l j _ (by omega),List.take_length,hb0];exact HVu.out _ (isD_drop HD.out j)))
              have HOA:=Aside0.mk (show okF a by rw [ha];exact HFt.out _)
              have HOB:=Aside0.mk (show okF b by rw [hb0];exact HFu.out _)
              have HOS:=Aside0.mk (cutsO_ok HC.out)
              have HIj:=Aside0.mk (HI3.out.below HBj.out)
              have HAj:=Aside0.mk (HA.out.below HIj.out.be)
              have HBBj:=Aside0.mk (HB.out.below HIj.out.be)
              have HCS:=Aside0.mk (show cutsO (fun i=>t.val (l.take i)) (fun i=>u.val (l.drop i)) (j+1)=cutO a b s by
                show (cutsO _ _ j).bind _=_
                rw [HC.out,ha,hb0];rfl)
              have p0:=HIj.out.sx.c0
              have p1:=HIj.out.sx.c1
              have p2:=HIj.out.sx.c2
              have q0:=HIj.out.sy.c0
              have q1:=HIj.out.sy.c1
              have q2:=HIj.out.sy.c2
              have r0:=hxj
              clear ha hb0
              go_wp2
              go_cut [12,13] (fun v12 v13 wx=>∃ b9 b10:Nat,v12=.pointer (some ⟨b9,0,none⟩)∧v13=.pointer (some ⟨b10,0,none⟩)∧Aside0 (FrAt wx b9 a)∧Aside0 (FrAt wx b10 b)∧Aside0 (Below wr.heap.size wr wx))
              case first =>
                go_region_held3 (fun w'=>w'.cell? ⟨w.heap.size,0,none⟩=some (.int .i64 (d:Int))∧w'.cell? ⟨w.heap.size,1,none⟩=some (.int .i64 (n:Int))∧w'.cell? ⟨w.heap.size,2,none⟩=some (.slice A lt.length ca)∧w'.cell? ⟨w.heap.size+1,0,none⟩=some (.int .i64 (d:Int))∧w'.cell? ⟨w.heap.size+1,1,none⟩=some (.int .i64 (n:Int))∧w'.cell? ⟨w.heap.size+1,2,none⟩=some (.slice B lu.length cb)∧w'.cell? (ad.add i)=some (.string (encW l))) (exact keep7 p0 p1 p2 q0 q1 q2 r0 (by repeat' (first|(with_reducible exact Below.refl _ _)|(with_reducible refine Below.setCell ?_ ?_ _)|(with_reducible refine qc_ ?_)|(with_reducible refine qa_ ?_ _)|(with_reducible refine qb_ ?_ _)|(simp;done)|(simp;omega)))) (first
                  | (go_at_call_of 186 (Value.agg #[.int .i64 (d:Int),.int .i64 (n:Int),.slice A lt.length ca]);refine (HVA.out _ ?hT).mono ?_;(case hT=>exact HAj.out.below (by repeat (first|(with_reducible exact Below.refl _ _)|(with_reducible refine qc_ ?_)|(with_reducible refine qa_ ?_ _)|(with_reducible refine qb_ ?_ _))));rintro e w4 ⟨rfl,rfl⟩)
                  | (go_at_call_of 186 (Value.agg #[.int .i64 (d:Int),.int .i64 (n:Int),.slice B lu.length cb]);refine (HVB.out _ ?hT).mono ?_;(case hT=>exact HBBj.out.below (by repeat (first|(with_reducible exact Below.refl _ _)|(with_reducible refine qc_ ?_)|(with_reducible refine qa_ ?_ _)|(with_reducible refine qb_ ?_ _))));rintro e w4 ⟨rfl,rfl⟩))
                all_goals
                  go_wp2_with fail
                  go_meet
                  case rel =>
                    refine ⟨_,_,rfl,rfl,⟨?_⟩,⟨?_⟩,⟨?_⟩⟩
                    · (repeat' (first|((with_reducible refine FrAt.new' ?_ _);simp;done)|(with_reducible refine FrAt.put2 ?_ _)|(with_reducible refine FrAt.drewN ?_ _)|(with_reducible refine FrAt.drew ?_)|(with_reducible refine FrAt.alloc ?_ _)|((with_reducible refine FrAt.far ?_ ?_ _);rotate_left;(focus (first|(simp;done)|(simp;omega))))|(with_reducible refine drewN_at ?_)|(with_reducible refine drew_at ?_)|((with_reducible refine new_at ?_);simp;done)|(with_reducible refine old_at ?_)|((with_reducible refine qk1_ ?_ ?_ _);rotate_left;(focus (first|(simp;done)|(simp;omega))))))
                    · (repeat' (first|((with_reducible refine FrAt.new' ?_ _);simp;done)|(with_reducible refine FrAt.put2 ?_ _)|(with_reducible refine FrAt.drewN ?_ _)|(with_reducible refine FrAt.drew ?_)|(with_reducible refine FrAt.alloc ?_ _)|((with_reducible refine FrAt.far ?_ ?_ _);rotate_left;(focus (first|(simp;done)|(simp;omega))))|(with_reducible refine drewN_at ?_)|(with_reducible refine drew_at ?_)|((with_reducible refine new_at ?_);simp;done)|(with_reducible refine old_at ?_)|((with_reducible refine qk1_ ?_ ?_ _);rotate_left;(focus (first|(simp;done)|(simp;omega))))))
                    · (repeat' (first|(with_reducible exact Below.refl _ _)|(with_reducible refine Below.setCell ?_ ?_ _)|(with_reducible refine qc_ ?_)|(with_reducible refine qa_ ?_ _)|(with_reducible refine qb_ ?_ _)|(simp;done)|(simp;omega)))
              case rest =>
                obtain ⟨b9,b10,rfl,rfl,HF9,HF10,HM4⟩:=hcut
                have f9:=HF9.out.c0
                have f9':=HF9.out.c1
                have HS4:=Aside0.mk (HF.out.below HM4.out)
                have HB4:=Aside0.mk (qj_ HBj.out HM4.out)
                clear p0 p1 p2 q0 q1 q2 r0 hxj
                by_cases ca0:a.f0=0
                · have HZ:=Aside0.mk (show ∀ W,Calls Try.prog 141 #[.agg #[.int .i64 a.f0,.int .i64 a.f1]] W fun e w'=>e=.returned (.bool true)∧Below W.heap.size W w' from fun W=>by have:=zeroS W a;rwa [show (a.f0 == 0)=true from by rw [ca0];rfl] at this)
                  have HCO:=Aside0.mk (HCS.out.trans (show cutO a b s=some s from by unfold cutO;rw [if_pos (Or.inl ca0)]))
                  clear ca0
                  go_wp2_with (go_at_call 141;refine (HZ.out _).mono ?_;rintro e w5 ⟨rfl,hb⟩;have HB5:=Aside0.mk hb;clear hb)
                  go_roundg (l.length+1 - (j+1))
                  case measure=>omega
                  case rel=>exact ⟨j+1,s,by omega,by omega,by first|rfl|(rw [w64 (by omega) (by omega)];rfl),⟨HS4.out.below HB5.out⟩,HCO,⟨qj_ HB4.out HB5.out⟩⟩
                · have HZ:=Aside0.mk (show ∀ W,Calls Try.prog 141 #[.agg #[.int .i64 a.f0,.int .i64 a.f1]] W fun e w'=>e=.returned (.bool false)∧Below W.heap.size W w' from fun W=>by have:=zeroS W a;rwa [show (a.f0 == 0)=false from by simpa using ca0] at this)
                  by_cases cb0:b.f0=0
                  · have HZ2:=Aside0.mk (show ∀ W,Calls Try.prog 141 #[.agg #[.int .i64 b.f0,.int .i64 b.f1]] W fun e w'=>e=.returned (.bool true)∧Below W.heap.size W w' from fun W=>by have:=zeroS W b;rwa [show (b.f0 == 0)=true from by rw [cb0];rfl] at this)
                    have HCO:=Aside0.mk (HCS.out.trans (show cutO a b s=some s from by unfold cutO;rw [if_pos (Or.inr cb0)]))
                    clear ca0 cb0
                    obtain ⟨flag,hflag⟩:∃ b:Nat,b=0:=⟨0,rfl⟩
                    go_wp2_with (first
                      | (go_at_call 141;clear hflag;refine (HZ.out _).mono ?_;rintro e w5 ⟨rfl,hb⟩;have HB5:=Aside0.mk hb;have g0:=(HF10.out.below hb).c0;have g1:=(HF10.out.below hb).c1;clear hb)
                      | (go_at_call 141;refine (HZ2.out _).mono ?_;rintro e w6 ⟨rfl,hb⟩;have HB6:=Aside0.mk (qj_ HB5.out hb);clear hb))
                    go_roundg (l.length+1 - (j+1))
                    case measure=>omega
                    case rel=>exact ⟨j+1,s,by omega,by omega,by first|rfl|(rw [w64 (by omega) (by omega)];rfl),⟨HS4.out.below HB6.out⟩,HCO,⟨qj_ HB4.out HB6.out⟩⟩
                  · have HZ2:=Aside0.mk (show ∀ W,Calls Try.prog 141 #[.agg #[.int .i64 b.f0,.int .i64 b.f1]] W fun e w'=>e=.returned (.bool false)∧Below W.heap.size W w' from fun W=>by have:=zeroS W b;rwa [show (b.f0 == 0)=false from by simpa using cb0] at this)
                    have HCO:=Aside0.mk (HCS.out.trans (show cutO a b s=if (timesM a b).2=true∧(plusM s (timesM a b).1).2=true then some (plusM s (timesM a b).1).1 else none from by unfold cutO;rw [if_neg (fun h=>h.elim ca0 cb0)]))
                    have HTM:=Aside0.mk (show ∀ W,_ from fun W=>timesFS W HOA.out HOB.out)
                    clear ca0 cb0
                    have HFail:=Aside0.mk (show cutsO (fun i=>t.val (l.take i)) (fun i=>u.val (l.drop i)) (j+1)=none→R=none from fun h=>by
                      rw [HRR.out]
                      refine prod_failAt HML.out hil ?_
                      rw [← HLL.out]
                      exact cutsO_fail (by omega) h)
                    by_cases c1:(timesM a b).2=true
                    · obtain ⟨q,hq⟩:∃ q,q=(timesM a b).1:=⟨_,rfl⟩
                      have HOQ:=Aside0.mk (show okF q by rw [hq];exact times_okF c1)
                      have HTM2:=Aside0.mk (show ∀ W,Calls Try.prog 178 #[.agg #[.int .i64 a.f0,.int .i64 a.f1],.agg #[.int .i64 b.f0,.int .i64 b.f1]] W fun e w'=>e=.returned (.tuple #[.agg #[.int .i64 q.f0,.int .i64 q.f1],.bool true])∧Below W.heap.size W w' from fun W=>by have:=HTM.out W;unfold tellF at this;rw [if_pos c1,c1,← hq] at this;exact this)
                      have HCO2:=Aside0.mk (show cutsO (fun i=>t.val (l.take i)) (fun i=>u.val (l.drop i)) (j+1)=if (plusM s q).2=true then some (plusM s q).1 else none from by rw [HCO.out,← hq];simp only [c1,true_and])
                      clear c1 hq HTM HCO
                      by_cases c2:(plusM s q).2=true
                      · obtain ⟨r,hr⟩:∃ r,r=(plusM s q).1:=⟨_,rfl⟩
                        have HPL:=Aside0.mk (show ∀ W,Calls Try.prog 187 #[.agg #[.int .i64 s.f0,.int .i64 s.f1],.agg #[.int .i64 q.f0,.int .i64 q.f1]] W fun e w'=>e=.returned (.tuple #[.agg #[.int .i64 r.f0,.int .i64 r.f1],.bool true])∧Below W.heap.size W w' from fun W=>by have:=plusFS W HOS.out HOQ.out;unfold tellF at this;rw [if_pos c2,c2,← hr] at this;exact this)
                        have HCO3:=Aside0.mk (show cutsO (fun i=>t.val (l.take i)) (fun i=>u.val (l.drop i)) (j+1)=some r from by rw [HCO2.out,if_pos c2,← hr])
                        clear c2 hr
                        obtain ⟨flag,hflag⟩:∃ b:Nat,b=0:=⟨0,rfl⟩
                        go_wp2_with (first
                          | (go_at_call 141;clear hflag;refine (HZ.out _).mono ?_;rintro e w5 ⟨rfl,hb⟩;have HB5:=Aside0.mk hb;have g0:=(HF10.out.below hb).c0;have g1:=(HF10.out.below hb).c1;clear hb)
                          | (go_at_call 141;refine (HZ2.out _).mono ?_;rintro e w6 ⟨rfl,hb⟩;have HB6:=Aside0.mk (qj_ HB5.out hb);have k0:=(HF9.out.below HB6.out).c0;have k1:=(HF9.out.below HB6.out).c1;have k2:=(HF10.out.below HB6.out).c0;have k3:=(HF10.out.below HB6.out).c1;clear hb)
                          | (go_at_call 178;refine (HTM2.out _).mono ?_;rintro e w7 ⟨rfl,hb⟩;have HB7:=Aside0.mk (qj_ HB6.out hb);have S:=HS4.out.below HB7.out;have e0:(w7.alloc (.cells #[.int .i64 q.f0,.int .i64 q.f1] 77)).cell? ⟨w3.heap.size,0,none⟩=some (.int .i64 s.f0):=(S.alloc _).c0;have e1:(w7.alloc (.cells #[.int .i64 q.f0,.int .i64 q.f1] 77)).cell? ⟨w3.heap.size,1,none⟩=some (.int .i64 s.f1):=(S.alloc _).c1;clear S hb)
                          | (go_at_call 187;refine (HPL.out _).mono ?_;rintro e w8 ⟨rfl,hb⟩;have HB8:=Aside0.mk (qj_ HB7.out (qj_ (qb_ (Below.refl _ _) _) hb));have S:=HS4.out.below HB8.out;have e2:(w8.alloc (.cells #[.int .i64 r.f0,.int .i64 r.f1] 77)).cell? ⟨w3.heap.size,0,none⟩=some (.int .i64 s.f0):=(S.alloc _).c0;have e3:(w8.alloc (.cells #[.int .i64 r.f0,.int .i64 r.f1] 77)).cell? ⟨w3.heap.size,1,none⟩=some (.int .i64 s.f1):=(S.alloc _).c1;have ef2:=qd_ (S.alloc (.cells #[.int .i64 r.f0,.int .i64 r.f1] 77)) 0;have ef3:=qd_ (S.alloc (.cells #[.int .i64 r.f0,.int .i64 r.f1] 77)) 1;have HS8:=Aside0.mk S;clear S hb))
                        go_roundg (l.length+1 - (j+1))
                        case measure=>omega
                        case rel =>
                          refine ⟨j+1,r,by omega,by omega,by first|rfl|(rw [w64 (by omega) (by omega)];rfl),⟨?_⟩,HCO3,⟨?_⟩⟩
                          · exact FrAt.put3 (HS8.out.alloc _) r
                          · exact ((qb_ (qj_ HB4.out HB8.out) _).setCell (Nat.le_refl _) _).setCell (Nat.le_refl _) _
                      · have c2':(plusM s q).2=false:=by simpa using c2
                        have HPL:=Aside0.mk (show ∀ W,Calls Try.prog 187 #[.agg #[.int .i64 s.f0,.int .i64 s.f1],.agg #[.int .i64 q.f0,.int .i64 q.f1]] W fun e w'=>e=.returned (.tuple #[.agg #[.int .i64 0,.int .i64 0],.bool false])∧Below W.heap.size W w' from fun W=>by have:=plusFS W HOS.out HOQ.out;unfold tellF at this;rw [if_neg c2,c2'] at this;exact this)
                        have HRN:=Aside0.mk (HFail.out (by rw [HCO2.out,if_neg c2]))
                        clear c2 c2'
                        obtain ⟨flag,hflag⟩:∃ b:Nat,b=0:=⟨0,rfl⟩
                        go_wp2_with (first
                          | (go_at_call 141;clear hflag;refine (HZ.out _).mono ?_;rintro e w5 ⟨rfl,hb⟩;have HB5:=Aside0.mk hb;have g0:=(HF10.out.below hb).c0;have g1:=(HF10.out.below hb).c1;clear hb)
                          | (go_at_call 141;refine (HZ2.out _).mono ?_;rintro e w6 ⟨rfl,hb⟩;have HB6:=Aside0.mk (qj_ HB5.out hb);have k0:=(HF9.out.below HB6.out).c0;have k1:=(HF9.out.below HB6.out).c1;have k2:=(HF10.out.below HB6.out).c0;have k3:=(HF10.out.below HB6.out).c1;clear hb)
                          | (go_at_call 178;refine (HTM2.out _).mono ?_;rintro e w7 ⟨rfl,hb⟩;have HB7:=Aside0.mk (qj_ HB6.out hb);have S:=HS4.out.below HB7.out;have e0:(w7.alloc (.cells #[.int .i64 q.f0,.int .i64 q.f1] 77)).cell? ⟨w3.heap.size,0,none⟩=some (.int .i64 s.f0):=(S.alloc _).c0;have e1:(w7.alloc (.cells #[.int .i64 q.f0,.int .i64 q.f1] 77)).cell? ⟨w3.heap.size,1,none⟩=some (.int .i64 s.f1):=(S.alloc _).c1;clear S hb)
                          | (go_at_call 187;refine (HPL.out _).mono ?_;rintro e w8 ⟨rfl,hb⟩;have HB8:=Aside0.mk (qj_ HB7.out (qj_ (qb_ (Below.refl _ _) _) hb));have S:=(HIj.out.below (qj_ HM4.out HB8.out)).sr;have e2:(w8.alloc (.cells #[.int .i64 0,.int .i64 0] 77)).cell? ⟨w.heap.size+1+1,0,none⟩=some (.int .i64 0):=(S.alloc _).c0;have e3:(w8.alloc (.cells #[.int .i64 0,.int .i64 0] 77)).cell? ⟨w.heap.size+1+1,1,none⟩=some (.int .i64 0):=(S.alloc _).c1;have e4:(w8.alloc (.cells #[.int .i64 0,.int .i64 0] 77)).cell? ⟨w.heap.size+1+1,2,none⟩=some (.slice none 0 0):=(S.alloc _).c2;have ef2:(w8.alloc (.cells #[.int .i64 0,.int .i64 0] 77)).frozen? ⟨w.heap.size+1+1,0,none⟩=false:=qd_ (S.alloc (.cells #[.int .i64 0,.int .i64 0] 77)) 0;have ef3:(w8.alloc (.cells #[.int .i64 0,.int .i64 0] 77)).frozen? ⟨w.heap.size+1+1,1,none⟩=false:=qd_ (S.alloc (.cells #[.int .i64 0,.int .i64 0] 77)) 1;have ef4:(w8.alloc (.cells #[.int .i64 0,.int .i64 0] 77)).frozen? ⟨w.heap.size+1+1,2,none⟩=false:=qd_ (S.alloc (.cells #[.int .i64 0,.int .i64 0] 77)) 2;have HS8:=Aside0.mk S;have HBW:=Aside0.mk ((HIj.out.below (qj_ HM4.out HB8.out)).be);clear S hb))
                        refine bodyPost_ret (results_ct rfl _ _ (w.heap.size+2) 38 _ (0,0) _ rfl (qt_ (qt_ (qt_ (HS8.out.alloc _) 0 _) 1 _) 2 _) hu rfl (by kernel_rfl)) rfl ?_
                        rw [HRN.out]
                        exact ⟨_,rfl,Kd.R_nil _ _ _ _ _,(((qb_ HBW.out _).setCell (Nat.le_add_right _ 2) _).setCell (Nat.le_add_right _ 2) _).setCell (Nat.le_add_right _ 2) _⟩
                    · have c1':(timesM a b).2=false:=by simpa using c1
                      have HTM2:=Aside0.mk (show ∀ W,Calls Try.prog 178 #[.agg #[.int .i64 a.f0,.int .i64 a.f1],.agg #[.int .i64 b.f0,.int .i64 b.f1]] W fun e w'=>e=.returned (.tuple #[.agg #[.int .i64 0,.int .i64 0],.bool false])∧Below W.heap.size W w' from fun W=>by have:=HTM.out W;unfold tellF at this;rw [if_neg c1,c1'] at this;exact this)
                      have HPL:=Aside0.mk (show ∀ W,_ from fun W=>plusBadS W s)
                      have HRN:=Aside0.mk (HFail.out (by rw [HCO.out,if_neg (fun h=>c1 h.1)]))
                      clear c1 c1'
                      obtain ⟨flag,hflag⟩:∃ b:Nat,b=0:=⟨0,rfl⟩
                      go_wp2_with (first
                        | (go_at_call 141;clear hflag;refine (HZ.out _).mono ?_;rintro e w5 ⟨rfl,hb⟩;have HB5:=Aside0.mk hb;have g0:=(HF10.out.below hb).c0;have g1:=(HF10.out.below hb).c1;clear hb)
                        | (go_at_call 141;refine (HZ2.out _).mono ?_;rintro e w6 ⟨rfl,hb⟩;have HB6:=Aside0.mk (qj_ HB5.out hb);have k0:=(HF9.out.below HB6.out).c0;have k1:=(HF9.out.below HB6.out).c1;have k2:=(HF10.out.below HB6.out).c0;have k3:=(HF10.out.below HB6.out).c1;clear hb)
                        | (go_at_call 178;refine (HTM2.out _).mono ?_;rintro e w7 ⟨rfl,hb⟩;have HB7:=Aside0.mk (qj_ HB6.out hb);have S:=HS4.out.below HB7.out;have e0:(w7.alloc (.cells #[.int .i64 0,.int .i64 0] 77)).cell? ⟨w3.heap.size,0,none⟩=some (.int .i64 s.f0):=(S.alloc _).c0;have e1:(w7.alloc (.cells #[.int .i64 0,.int .i64 0] 77)).cell? ⟨w3.heap.size,1,none⟩=some (.int .i64 s.f1):=(S.alloc _).c1;clear S hb)
                        | (go_at_call 187;refine (HPL.out _).mono ?_;rintro e w8 ⟨rfl,hb⟩;have HB8:=Aside0.mk (qj_ HB7.out (qj_ (qb_ (Below.refl _ _) _) hb));have S:=(HIj.out.below (qj_ HM4.out HB8.out)).sr;have e2:(w8.alloc (.cells #[.int .i64 0,.int .i64 0] 77)).cell? ⟨w.heap.size+1+1,0,none⟩=some (.int .i64 0):=(S.alloc _).c0;have e3:(w8.alloc (.cells #[.int .i64 0,.int .i64 0] 77)).cell? ⟨w.heap.size+1+1,1,none⟩=some (.int .i64 0):=(S.alloc _).c1;have e4:(w8.alloc (.cells #[.int .i64 0,.int .i64 0] 77)).cell? ⟨w.heap.size+1+1,2,none⟩=some (.slice none 0 0):=(S.alloc _).c2;have ef2:(w8.alloc (.cells #[.int .i64 0,.int .i64 0] 77)).frozen? ⟨w.heap.size+1+1,0,none⟩=false:=qd_ (S.alloc (.cells #[.int .i64 0,.int .i64 0] 77)) 0;have ef3:(w8.alloc (.cells #[.int .i64 0,.int .i64 0] 77)).frozen? ⟨w.heap.size+1+1,1,none⟩=false:=qd_ (S.alloc (.cells #[.int .i64 0,.int .i64 0] 77)) 1;have ef4:(w8.alloc (.cells #[.int .i64 0,.int .i64 0] 77)).frozen? ⟨w.heap.size+1+1,2,none⟩=false:=qd_ (S.alloc (.cells #[.int .i64 0,.int .i64 0] 77)) 2;have HS8:=Aside0.mk S;have HBW:=Aside0.mk ((HIj.out.below (qj_ HM4.out HB8.out)).be);clear S hb))
                      refine bodyPost_ret (results_ct rfl _ _ (w.heap.size+2) 38 _ (0,0) _ rfl (qt_ (qt_ (qt_ (HS8.out.alloc _) 0 _) 1 _) 2 _) hu rfl (by kernel_rfl)) rfl ?_
                      rw [HRN.out]
                      exact ⟨_,rfl,Kd.R_nil _ _ _ _ _,(((qb_ HBW.out _).setCell (Nat.le_add_right _ 2) _).setCell (Nat.le_add_right _ 2) _).setCell (Nat.le_add_right _ 2) _⟩
            · have hjz:¬ (j:Int)≤(l.length:Int):=by omega
              obtain rfl:j=l.length+1:=by omega
              have s0:=HF.out.c0
              have s1:=HF.out.c1
              have HWO:=Aside0.mk (show wordO t u l=some s from HC.out)
              have HOS:=Aside0.mk (cutsO_ok HC.out)
              have HIj:=Aside0.mk (HI3.out.below HBj.out)
              have HP2:=Aside0.mk (show prodO t u (wordsU d m ++ (wordsN d m).take (i+1)) (some [])=some (acc ++ (if s.f0=0 then [] else [⟨encW l,s⟩])) from by
                rw [List.take_succ_eq_append_getElem hil,← HLL.out,← List.append_assoc]
                exact prodO_snoc t u _ l HP.out HWO.out)
              by_cases cs:s.f0=0
              · have HZ:=Aside0.mk (show ∀ W,Calls Try.prog 141 #[.agg #[.int .i64 s.f0,.int .i64 s.f1]] W fun e w'=>e=.returned (.bool true)∧Below W.heap.size W w' from fun W=>by have:=zeroS W s;rwa [show (s.f0 == 0)=true from by rw [cs];rfl] at this)
                have hp2:=HP2.out
                rw [if_pos cs,List.append_nil] at hp2
                have HP3:=Aside0.mk hp2
                clear cs hp2
                go_wp2_with (go_at_call 141;refine (HZ.out _).mono ?_;rintro e w5 ⟨rfl,hb⟩;have HB5:=Aside0.mk hb;clear hb)
                go_roundg ((wordsN d m).length - (i+1))
                case measure=>omega
                case rel=>exact ⟨i+1,vo,acc,by omega,by omega,by have:=hlen.out;first|rfl|(rw [w64 (by omega) (by omega)];rfl),⟨HIj.out.below HB5.out⟩,HP3,⟨_,((HW3.out.below HBj.out).below HB5.out)⟩⟩
              · have HZ:=Aside0.mk (show ∀ W,Calls Try.prog 141 #[.agg #[.int .i64 s.f0,.int .i64 s.f1]] W fun e w'=>e=.returned (.bool false)∧Below W.heap.size W w' from fun W=>by have:=zeroS W s;rwa [show (s.f0 == 0)=false from by simpa using cs] at this)
                have hp2:=HP2.out
                rw [if_neg cs] at hp2
                have HP3:=Aside0.mk hp2
                clear cs hp2
                go_wp2_with (go_at_call 141;refine (HZ.out _).mono ?_;rintro e w5 ⟨rfl,hb⟩;have HI5:=Aside0.mk (HIj.out.below hb);have HW5:=Aside0.mk ((HW3.out.below HBj.out).below hb);have S:=HF.out.below hb;have s0:=S.c0;have s1:=S.c1;have r0:=qq_ hb hxj;have v2:=HI5.out.so.c2;clear S hb)
                have v3:(w5.alloc (.cells #[.string (encW l),.int .i64 s.f0,.int .i64 s.f1] 79)).cell? ⟨w1.heap.size,2,none⟩=some vo:=(HI5.out.so.alloc _).c2
                have HAL:=Aside0.mk (show acc.length≤1000000 from by
                  have h1:=prodO_len t u _ _ _ HP.out
                  obtain ⟨r,hr⟩:=wordsU_le d (show m≤n+1 by have:=HML.out;omega)
                  rw [wordsU_D] at hr
                  have h2:=wordsD_small d n HS.out.d3 HS.out.n8
                  rw [hr,List.length_append] at h2
                  have h3:=hlen.out
                  rw [List.length_append,List.length_take,List.length_nil] at h1
                  omega)
                refine wp_region_noPanic ?_
                go_region_law ((refine Kd.qh3_ k79 w.heap.size rfl (.tmp 92) (.tmp 99) 24 79 (.agg #[(.string ⟨#[]⟩),(.int .i64 0),(.int .i64 0)]) 32 rfl Try.underlying24 info79' rfl (by decide) (by omega) vo acc ⟨encW l,s⟩ [.string (encW l),.int .i64 s.f0,.int .i64 s.f1] (fun _=>True) (fun k=>some k ≠ vo.ownBlock) rfl rfl (k79_mkM _ _ _ ⟨encW l,s⟩) (fun _ h=>⟨trivial,h⟩) (fun _ _=>trivial) (Kd.R_drew HI5.out.ro) (qc_ HI5.out.be) HI5.out.be.size (by have:=HAL.out;omega) ?_;intro v6 w6 ho hb hg hat;have SO:=HI5.out.so.drew.grown hg (Kd.R_ne (Kd.R_drew HI5.out.ro) HI5.out.so.drew (by decide));have SX:=HI5.out.sx.drew.grown hg (Kd.R_ne (Kd.R_drew HI5.out.ro) HI5.out.sx.drew (by decide));have SY:=HI5.out.sy.drew.grown hg (Kd.R_ne (Kd.R_drew HI5.out.ro) HI5.out.sy.drew (by decide));have SR:=HI5.out.sr.drew.grown hg (Kd.R_ne (Kd.R_drew HI5.out.ro) HI5.out.sr.drew (by decide));obtain ⟨A6,c6,rfl⟩:=Kd.qf2_ ho;have HR6:=Aside0.mk ho;have HB6:=Aside0.mk hb;have HW6:=Aside0.mk (WordsAt.grown (Kd.R_drew HW5.out) (Kd.R_drew HI5.out.ro) hg);have u0:=SO.c2;have u1:=qd_ SO 2;have HSO:=Aside0.mk SO;have HSX:=Aside0.mk SX;have HSY:=Aside0.mk SY;have HSR:=Aside0.mk SR;clear SO SX SY SR ho hb hg hat))
                all_goals
                  refine NoPanic.normal ?_
                  go_wp2
                  go_roundg ((wordsN d m).length - (i+1))
                  case measure=>omega
                  case rel =>
                    have hlo:=HI5.out.lo
                    refine ⟨i+1,_,acc ++ [⟨encW l,s⟩],by omega,by omega,by have:=hlen.out;first|rfl|(rw [w64 (by omega) (by omega)];rfl),⟨⟨?_,?_,?_,HSO.out.put _,?_,?_,hlo⟩⟩,HP3,⟨_,Kd.R_set HW6.out HSO.out (by decide) 2 _⟩⟩
                    · exact HSX.out.far (by simp;omega) _
                    · exact HSY.out.far (by simp;omega) _
                    · exact HSR.out.far (by simp;omega) _
                    · have hh:=HR6.out
                      rw [List.length_append,List.length_singleton] at hh
                      exact Kd.R_set hh HSO.out (by decide) 2 _
                    · exact HB6.out.setCell (by simp;omega) _
        · have hiz:¬ (i:Int) < ((wordsN d m).length:Int):=by omega
          obtain rfl:i=(wordsN d m).length:=by omega
          have hp:=HP.out
          rw [List.take_length] at hp
          have HP2:=Aside0.mk (show prodO t u (wordsU d (m+1)) (some [])=some acc from hp)
          clear hp
          go_wp2
          go_roundg (n+1 - (m+1))
          case measure=>omega
          case rel=>exact ⟨m+1,vo,acc,by have:=HML.out;omega,by omega,by have:=HML.out;have:=HS.out.n8;first|rfl|(rw [w64 (by omega) (by omega)];rfl),HI,HP2⟩
    · have hz:¬ (m:Int)≤(n:Int):=by omega
      obtain rfl:m=n+1:=by omega
      have hp:=HP.out
      rw [wordsU_D] at hp
      have HRS:=Aside0.mk (show R=some acc from HRR.out.trans hp)
      obtain ⟨Av,cv,rfl⟩:=Kd.qf2_ HI.out.ro
      have z0:=HI.out.sx.c0
      have z1:=HI.out.sx.c1
      have y0:=HI.out.so.c0
      have y1:=HI.out.so.c1
      have y2:=HI.out.so.c2
      have x0:=HI.out.sr.c0
      have x1:=HI.out.sr.c1
      have x2:=HI.out.sr.c2
      have f0:=qd_ HI.out.sr 0
      have f1:=qd_ HI.out.sr 1
      have f2:=qd_ HI.out.sr 2
      have x0':wr.cell? ⟨w.heap.size+1+1,0,none⟩=some (.int .i64 0):=x0
      have x1':wr.cell? ⟨w.heap.size+1+1,1,none⟩=some (.int .i64 0):=x1
      have x2':wr.cell? ⟨w.heap.size+1+1,2,none⟩=some (.slice none 0 0):=x2
      have f0':wr.frozen? ⟨w.heap.size+1+1,0,none⟩=false:=f0
      have f1':wr.frozen? ⟨w.heap.size+1+1,1,none⟩=false:=f1
      have f2':wr.frozen? ⟨w.heap.size+1+1,2,none⟩=false:=f2
      clear hp
      go_wp2
      refine bodyPost_ret (results_ct rfl _ _ (w.heap.size+2) 38 _ (0,0) _ rfl (qt_ (qt_ (qt_ HI.out.sr 0 _) 1 _) 2 _) hu rfl (by kernel_rfl)) rfl ?_
      rw [HRS.out]
      refine ⟨_,rfl,?_,((HI.out.be.setCell (Nat.le_add_right _ 2) _).setCell (Nat.le_add_right _ 2) _).setCell (Nat.le_add_right _ 2) _⟩
      exact Kd.R_set (Kd.R_set (Kd.R_set HI.out.ro HI.out.sr (by decide) 0 _) (qt_ HI.out.sr 0 _) (by decide) 1 _) (qt_ (qt_ HI.out.sr 0 _) 1 _) (by decide) 2 _
end Go.Proofs.Ytaiefdhenikiiaa.Base
namespace Go.Proofs.Ytaiefdhenikiiaa.Base
open Go.RowKit Go.Proofs.YtaiefdhenikiiaaW.PrintWords Go.Proofs.YtaiefdhenikiiaaW.PrintLast Go.Proofs.YtaiefdhenikiiaaW.PrintMore
set_option linter.unusedVariables false
set_option linter.unusedSimpArgs false
theorem tk_lt {α:Type} (p:α→Bool):∀ (x:List α) (i:Nat) (h:i < (x.takeWhile p).length),∃ hx:i < x.length,p x[i]=true
  | [],i,h=>by simp at h
  | y :: x,i,h=>by
    by_cases c:p y=true
    · rw [List.takeWhile_cons_of_pos c] at h
      cases i with
      | zero=>exact ⟨by simp,by simpa using c⟩
      | succ i =>
        obtain ⟨h1,h2⟩:=tk_lt p x i (by simpa using h)
        exact ⟨by simpa using h1,by simpa using h2⟩
    · rw [List.takeWhile_cons_of_neg c] at h;simp at h
theorem tk_at {α:Type} (p:α→Bool):∀ (x:List α) (h:(x.takeWhile p).length < x.length),p x[(x.takeWhile p).length]=false
  | [],h=>by simp at h
  | y :: x,h=>by
    by_cases c:p y=true
    · have e:(y :: x).takeWhile p=y :: x.takeWhile p:=List.takeWhile_cons_of_pos c
      have h2:(x.takeWhile p).length < x.length:=by rw [e] at h;simpa using h
      have:=tk_at p x h2
      simp only [e,List.length_cons,List.getElem_cons_succ]
      exact this
    · have e:(y :: x).takeWhile p=[]:=List.takeWhile_cons_of_neg c
      simp only [e,List.length_nil,List.getElem_cons_zero]
      simpa using c
theorem befS (W:World) (u v:ByteArray) (b:Bool) (h:befW u v=b):Calls Try.prog 152 #[.string u,.string v] W fun e w'=>e=.returned (.bool b)∧Below W.heap.size W w':=by
  have hh:qa2_.f u v=some b:=by
    rw [← h]
    unfold qa2_.f befW
    by_cases c:(u.size:Int)=(v.size:Int)
    · rw [if_pos c,if_neg (by simpa using c)]
    · rw [if_neg c,if_pos c]
  refine (qa2_.calls _ _ b _ hh).mono ?_
  rintro e w' ⟨rfl,hd⟩
  exact ⟨rfl,hd.below⟩
theorem keepB4 {w W:World} {a1 a2 a3 a4:Addr} {v1 v2 v3 v4:Value} (p1:w.cell? a1=some v1) (p2:w.cell? a2=some v2) (p3:w.cell? a3=some v3) (p4:w.cell? a4=some v4) (hb:Below w.heap.size w W) :
    W.cell? a1=some v1∧W.cell? a2=some v2∧W.cell? a3=some v3∧W.cell? a4=some v4 :=
  ⟨qq_ hb p1,qq_ hb p2,qq_ hb p3,qq_ hb p4⟩
theorem FrAt.put4 {w:World} {b:Nat} {s:S77} (h:FrAt w b s) (a:S77):FrAt ((w.setCell ⟨b,0,none⟩ (.int .i64 a.f0)).setCell ⟨b,1,none⟩ (.int .i64 a.f1)) b a:=qt_ (qt_ h 0 _) 1 _
set_option maxHeartbeats 32000000 in
set_option maxRecDepth 100000 in
theorem putH (w:World) {A:Option Addr} {c:Nat} {l:List S79} (H:TmsC w A c l) (hl:okL l) (s:ByteArray) {a:S77} (ha:okF a):Calls Try.prog 158 #[.slice A l.length c,.string s,.agg #[.int .i64 a.f0,.int .i64 a.f1]] w fun e w'=>∃ v:Value,e=.returned (.tuple #[v,.bool (tellL (putL l s a)).2])∧TermsR w' w.heap.size v (tellL (putL l s a)).1∧Below w.heap.size w w':=by
  have hu3:=Try.underlying77
  have HA:=Aside0.mk H
  have HOL:=Aside0.mk hl
  have HOA:=Aside0.mk ha
  obtain ⟨i79,hi79,_,hsz79,_⟩:=info_parts info79
  obtain ⟨R,hR⟩:∃ R,R=tellL (putL l s a):=⟨_,rfl⟩
  rw [← hR]
  obtain ⟨P,hP⟩:∃ P,P=putAt l s:=⟨_,rfl⟩
  have HPL:=Aside0.mk (show P≤l.length by rw [hP];exact (List.takeWhile_sublist _).length_le)
  have HB1:=Aside0.mk (show ∀ i,i < P→∃ h:i < l.length,befW l[i].f0 s=true from fun i hi=>tk_lt (fun y:S79=>befW y.f0 s) l i (by rw [hP] at hi;exact hi))
  have HB2:=Aside0.mk (show ∀ h:P < l.length,befW l[P].f0 s=false from fun h=>by subst hP;exact tk_at (fun y:S79=>befW y.f0 s) l h)
  have HN:=Aside0.mk (show l[P]?=none→R=(l.take P ++ (if a.f0=0 then [] else [⟨s,a⟩]) ++ l.drop P,true) from fun h=>by
    rw [hR];unfold putL;rw [← hP,h];rfl)
  have HS1:=Aside0.mk (show ∀ (h:P < l.length),¬ l[P].f0=s→R=(l.take P ++ (if a.f0=0 then [] else [⟨s,a⟩]) ++ l.drop P,true) from fun h hn=>by
    rw [hR];unfold putL;rw [← hP,List.getElem?_eq_getElem h];simp only [if_neg hn];rfl)
  have HS2:=Aside0.mk (show ∀ (h:P < l.length),l[P].f0=s→(plusM l[P].f1 a).2=true→R=(l.take P ++ (if (plusM l[P].f1 a).1.f0=0 then [] else [⟨s,(plusM l[P].f1 a).1⟩]) ++ l.drop (P+1),true) from fun h hn h2=>by
    rw [hR];unfold putL;rw [← hP,List.getElem?_eq_getElem h];simp only [if_pos hn,if_pos h2];rfl)
  have HS3:=Aside0.mk (show ∀ (h:P < l.length),l[P].f0=s→(plusM l[P].f1 a).2=false→R=([],false) from fun h hn h2=>by
    rw [hR];unfold putL;rw [← hP,List.getElem?_eq_getElem h];simp only [if_pos hn,h2,Bool.false_eq_true,if_false];rfl)
  have HDR:=Aside0.mk (show ∀ q:Nat,q≤l.length→∃ (A2:Option Addr) (c2:Nat),(∀ W:World,(Instr.slice 24 (.slice A l.length c) (some (.int .i64 (q:Int))) none none).run Try.prog W=.ok (.slice A2 (l.drop q).length c2) W)∧Kd.C k79 w A2 (l.drop q).length (l.drop q) from fun q hq=>by
    have h1:=cut_from (P:=Try.prog) 24 79 .i64 Try.underlying24 hi79 3 hsz79 A l.length c (q:Int) (by omega) (by omega)
    have h2:=Kd.C_drop (m:=q) H.row hq H.cap
    rw [Int.toNat_natCast,← List.length_drop] at h1
    exact ⟨_,_,h1,h2⟩)
  have HCT:=Aside0.mk (show ∀ q:Nat,q≤l.length→∀ W:World,(Instr.slice 24 (.slice A l.length c) none (some (.int .i64 (q:Int))) none).run Try.prog W=.ok (.slice A (l.take q).length c) W from fun q hq=>by
    have h1:=cut_to (P:=Try.prog) 24 79 .i64 Try.underlying24 hi79 A l.length c (q:Int) (by omega) (by omega) H.cap
    rw [show (l.take q).length=q by rw [List.length_take];omega]
    rwa [Int.toNat_natCast] at h1)
  clear H hl ha hR hP
  go_enter Try.func158,Try.ntmps158
  go_wp2
  generalize hW:World.alloc _ _=W0
  have HF0:=Aside0.mk (show FrAt W0 w.heap.size a from by rw [← hW];exact FrAt.new _ _)
  have HB0:=Aside0.mk (show Below w.heap.size w W0 from by rw [← hW];exact qb_ (Below.refl _ _) _)
  clear hW
  go_loopg [8] (P+1) (fun gg v8 wr=>∃ i:Nat,i≤P∧P+1 - i≤gg∧v8=.int .i64 i∧Aside0 (Below W0.heap.size W0 wr))
  case atStart=>exact ⟨0,Nat.zero_le _,by omega,rfl,⟨Below.refl _ _⟩⟩
  case round =>
    obtain ⟨i,hi,hg,rfl,HBr⟩:=hrel
    have HBw:=Aside0.mk (qj_ HB0.out HBr.out)
    by_cases hip:i < P
    · obtain ⟨hlt,hbe⟩:=HB1.out i hip
      have hltz:(i:Int) < (l.length:Int):=by omega
      obtain ⟨ad,rfl,t0,t1,t2⟩:=at_T79 (Kd.qv1_ HA.out.row HBw.out) (i:Int) (by omega) (by omega)
      have e1:rd_T79 l (i:Int)=l[i]:=by simp [rd_T79,List.getD_eq_getElem?_getD,List.getElem?_eq_getElem hlt]
      rw [e1,Int.toNat_natCast] at t0 t1 t2
      have HBE:=Aside0.mk hbe
      have HPB:=Aside0.mk (show l.length≤1048576 from HA.out.len)
      clear hbe e1
      go_wp2_with (go_at_call 152;refine (befS _ _ _ true HBE.out).mono ?_;rintro e w1 ⟨rfl,hb⟩;have HBn:=Aside0.mk (qj_ HBr.out hb);clear hb)
      go_roundg (P+1 - (i+1))
      case measure=>omega
      case rel=>exact ⟨i+1,by omega,by omega,by have:=HPB.out;first|rfl|(rw [w64 (by omega) (by omega)];rfl),HBn⟩
    · obtain rfl:i=P:=by omega
      have hpl:=HPL.out
      have hpz:(i:Int)≤(l.length:Int):=by omega
      have hcut1:=HCT.out i hpl
      obtain ⟨tl,htl⟩:∃ x,x=l.take i:=⟨_,rfl⟩
      rw [← htl] at hcut1
      have HTL:=Aside0.mk (show Kd.C k79 w A tl.length tl from by rw [htl];exact Kd.C_take HA.out.row hpl)
      have HTLL:=Aside0.mk (show tl.length≤1048576 from by rw [htl,List.length_take];have:=HA.out.len;omega)
      have HTE:=Aside0.mk htl
      clear htl
      have HFr:=Aside0.mk (HF0.out.below HBr.out)
      by_cases hlt:i < l.length
      · have hltz:(i:Int) < (l.length:Int):=by omega
        obtain ⟨ad,hA1,t0,t1,t2⟩:=at_T79 (Kd.qv1_ HA.out.row HBw.out) (i:Int) (by omega) (by omega)
        subst hA1
        have e1:rd_T79 l (i:Int)=l[i]:=by simp [rd_T79,List.getD_eq_getElem?_getD,List.getElem?_eq_getElem hlt]
        rw [e1,Int.toNat_natCast] at t0 t1 t2
        have HBE:=Aside0.mk (HB2.out hlt)
        have HT0:=Aside0.mk (show ∀ W,Below w.heap.size w W→W.cell? (ad.add (i * 3))=some (.string l[i].f0)∧W.cell? ⟨(ad.add (i * 3)).block,(ad.add (i * 3)).off+1,none⟩=some (.int .i64 l[i].f1.f0)∧W.cell? ⟨(ad.add (i * 3)).block,(ad.add (i * 3)).off+2,none⟩=some (.int .i64 l[i].f1.f1) from fun W hW=>by
          obtain ⟨ad2,hA2,u0,u1,u2⟩:=at_T79 (Kd.qv1_ HA.out.row hW) (i:Int) (by omega) (by omega)
          obtain rfl:=Option.some.inj hA2
          rw [e1,Int.toNat_natCast] at u0 u1 u2
          exact ⟨u0,u1,u2⟩)
        clear e1
        by_cases ceq:l[i].f0=s
        · have ceq2:(l[i].f0.toList == s.toList)=true:=by rw [ceq];simp
          obtain ⟨z,hz⟩:∃ z,z=l[i].f1:=⟨_,rfl⟩
          have HOZ:=Aside0.mk (show okF z by rw [hz];exact HOL.out _ (List.getElem_mem hlt))
          have HT:=Aside0.mk (HS2.out hlt ceq)
          have HT3:=Aside0.mk (HS3.out hlt ceq)
          rw [← hz] at HT HT3 HT0 t1 t2
          clear hz ceq
          go_wp2_with (first
            | (go_at_call 152;refine (befS _ _ _ false HBE.out).mono ?_;rintro e w1 ⟨rfl,hb⟩;have HBQ:=Aside0.mk (qj_ HBw.out hb);have HFQ:=Aside0.mk (FrAt.below HFr.out hb);clear hb)
            | ((with_reducible refine qu_ (N:=27) rfl ?_);refine Kd.R_lit k79 _ 79 ?hg (N:=27) ?hd (xs:=([]:List S79)) (inner:=[]) (ok:=fun _=>True) (okp:=fun _=>True) ?hr ?hp (fun _ hk=>hk) trivial (Below.refl _ _) (Nat.le_refl _) (by simp) ?_;(case hd=>rfl);(case hg=>rfl);(case hr=>first|(go_simp;done)|(go_simp;rfl));(case hp=>exact (Reps.none _ _));intro v3 w3 ho hb hg hnew;clear hg hnew;have HF3:=Aside0.mk (FrAt.below HFQ.out hb);have HB3:=Aside0.mk (qj_ HBQ.out hb);have HO3:=Aside0.mk (show TermsR w3 w.heap.size v3 [] from Kd.qn2_ ho HBQ.out.size);clear ho hb)
            | ((with_reducible refine qi2_ (b:=.append) (xs:=#[.tmp 27,.tmp 30]) rfl ?_);at_builtin;refine Kd.qp2_ k79 (w0:=w) w.heap.size rfl (.tmp 27) (.tmp 30) 24 79 (.agg #[(.string ⟨#[]⟩),(.int .i64 0),(.int .i64 0)]) 32 rfl Try.underlying24 info79' rfl (by decide) (by omega) v3 ([]:List S79) tl _ _ _ (fun _=>True) (fun _=>False) rfl rfl ?aO ?aR (fun _ _ h=>h) (fun _ h=>h.elim) ?aF ?aB ?aS ?aL ?_;(case aR=>exact Kd.qv1_ HTL.out HB3.out);(case aB=>exact HB3.out);(case aF=>exact (fun _ _=>trivial));(case aO=>exact HO3.out);(case aS=>exact qk_ HB3.out);(case aL=>have:=HTLL.out;rw [List.length_nil];omega);intro v4 w4 ho hb hg hat;rw [List.nil_append,HTE.out] at ho;have HF4:=Aside0.mk (show FrAt w4 w.heap.size a from qj3_ HF3.out hg (Kd.R_ne HO3.out HF3.out (by decide)));have HB4:=Aside0.mk hb;have HO4:=Aside0.mk ho;have x0:=HF4.out.c0;have x1:=HF4.out.c1;obtain ⟨u0,u1,u2⟩:=HT0.out _ HB4.out;clear ho hb hg hat))
          obtain ⟨f,hf⟩:∃ f,f=tellF (plusM z a):=⟨_,rfl⟩
          obtain ⟨ok,hok⟩:∃ ok,ok=(plusM z a).2:=⟨_,rfl⟩
          have HTM:=Aside0.mk (show ∀ W,Calls Try.prog 187 #[.agg #[.int .i64 z.f0,.int .i64 z.f1],.agg #[.int .i64 a.f0,.int .i64 a.f1]] W fun e w'=>e=.returned (.tuple #[.agg #[.int .i64 f.f0,.int .i64 f.f1],.bool ok])∧Below W.heap.size W w' from fun W=>by rw [hf,hok];exact plusFS W HOZ.out HOA.out)
          have HFF:=Aside0.mk hf
          have HOK:=Aside0.mk hok
          clear hf hok t0 t1 t2
          obtain ⟨w5,hw5⟩:∃ x,x=w4:=⟨_,rfl⟩
          go_cut [10,11] (fun v10 v11 wx=>∃ b9:Nat,v10=.pointer (some ⟨b9,0,none⟩)∧v11=.bool ok∧Aside0 (FrAt wx b9 f)∧Aside0 (Below w4.heap.size w4 wx)∧Aside0 (w4.heap.size≤b9))
          case first =>
            go_region_held3 (fun w'=>w'.cell? ⟨(ad.add (i * 3)).block,(ad.add (i * 3)).off+1,none⟩=some (.int .i64 z.f0)∧w'.cell? ⟨(ad.add (i * 3)).block,(ad.add (i * 3)).off+2,none⟩=some (.int .i64 z.f1)∧w'.cell? ⟨w.heap.size,0,none⟩=some (.int .i64 a.f0)∧w'.cell? ⟨w.heap.size,1,none⟩=some (.int .i64 a.f1)) (exact keepB4 u1 u2 x0 x1 (by (repeat' (first|(with_reducible exact Below.refl _ _)|(with_reducible exact HB6.out)|(with_reducible refine Below.setCell ?_ ?_ _)|(with_reducible refine qc_ ?_)|(with_reducible refine qa_ ?_ _)|(with_reducible refine qb_ ?_ _)|(simp;done)|(simp;omega)|(have:=HB6.out.size;simp;omega))))) (first|(go_at_call 187;refine (HTM.out _).mono ?_;rintro e w6 ⟨rfl,hb⟩;have HB6:=Aside0.mk (show Below w4.heap.size w4 w6 from qj_ (by repeat (first|(with_reducible exact Below.refl _ _)|(with_reducible refine qc_ ?_)|(with_reducible refine qa_ ?_ _)|(with_reducible refine qb_ ?_ _))) hb);first|(refine (fun (Z:w6.heap[w4.heap.size]?=some (.cells #[.int .i64 0,.int .i64 0] 77 (0,0)))=>?_) (qm_ ?_ hb);rotate_left;(first|exact drew_at (new_at rfl)|exact new_at rfl);have HZZ:=Aside0.mk Z;have z0:=qg_ Z 0;have z1:=qg_ Z 1;have zf0:=qd_ Z 0;have zf1:=qd_ Z 1;clear Z hb)|(clear hb)))
            all_goals
              go_wp2_with fail
              go_meet
              case rel =>
                refine ⟨_,rfl,rfl,⟨?_⟩,⟨?_⟩,⟨?_⟩⟩
                · (repeat' (first|((with_reducible refine FrAt.new' ?_ _);simp;done)|(with_reducible refine FrAt.put2 ?_ _)|(with_reducible exact HZZ.out)|(with_reducible refine FrAt.drewN ?_ _)|(with_reducible refine FrAt.drew ?_)|(with_reducible refine FrAt.alloc ?_ _)|((with_reducible refine FrAt.far ?_ ?_ _);rotate_left;(focus (first|(simp;done)|(simp;omega))))|(with_reducible refine drewN_at ?_)|(with_reducible refine drew_at ?_)|((with_reducible refine new_at ?_);simp;done)|(with_reducible refine old_at ?_)|((with_reducible refine qk1_ ?_ ?_ _);rotate_left;(focus (first|(simp;done)|(simp;omega))))))
                · (repeat' (first|(with_reducible exact Below.refl _ _)|(with_reducible exact HB6.out)|(with_reducible refine Below.setCell ?_ ?_ _)|(with_reducible refine qc_ ?_)|(with_reducible refine qa_ ?_ _)|(with_reducible refine qb_ ?_ _)|(simp;done)|(simp;omega)|(have:=HB6.out.size;simp;omega)))
                · (have h6_:=HB6.out.size;first|(simp;done)|(simp;omega)|omega)
          case rest =>
            obtain ⟨b9,rfl,rfl,HF9,HM9,HL9⟩:=hcut
            have HB9:=Aside0.mk (qj_ HB4.out HM9.out)
            have HO9:=Aside0.mk (Kd.qm2_ HO4.out HM9.out)
            have HA9:=Aside0.mk (HF4.out.below HM9.out)
            clear x0 x1 u0 u1 u2
            cases ok with
            | false =>
              have HV:=Aside0.mk (HT3.out HOK.out.symm)
              go_wp2
              go_returns
              rw [HV.out]
              exact ⟨_,rfl,Kd.R_nil _ _ _ _ _,HB9.out⟩
            | true =>
              have HV:=Aside0.mk (HT.out HOK.out.symm)
              have hfe:f=(plusM z a).1:=by rw [HFF.out];unfold tellF;rw [← HOK.out];rfl
              rw [← hfe] at HV
              have g0:=HF9.out.c0
              have g1:=HF9.out.c1
              have k0:=HA9.out.c0
              have k1:=HA9.out.c1
              have kf0:=qd_ HA9.out 0
              have kf1:=qd_ HA9.out 1
              obtain ⟨q,hq⟩:∃ q,q=i+1:=⟨_,rfl⟩
              have hqz:IntKind.i64.wrap ((i:Int)+1)=(q:Int):=by rw [i64_w,w64 (by omega) (by have:=HA.out.len;omega),hq];rfl
              have hqw:wrap64 ((i:Int)+1)=(q:Int):=by rw [w64 (by omega) (by have:=HA.out.len;omega),hq];rfl
              have hql:q≤l.length:=by omega
              rw [← hq] at HV
              clear hfe hq
              go_upto_region 11 with fail
              generalize hW:World.setCell (World.setCell wc _ _) _ _=W1
              have HFX:=Aside0.mk (show FrAt W1 w.heap.size f from by rw [← hW];exact FrAt.put4 HA9.out f)
              have HBX:=Aside0.mk (show Below w.heap.size w W1 from by rw [← hW];exact (HB9.out.setCell (Nat.le_refl _) _).setCell (Nat.le_refl _) _)
              have HOX:=Aside0.mk (show TermsR W1 w.heap.size v4 (l.take i) from by rw [← hW];exact Kd.R_set (Kd.R_set HO9.out HA9.out (by decide) 0 _) (qt_ HA9.out 0 _) (by decide) 1 _)
              have x0:=HFX.out.c0
              have x1:=HFX.out.c1
              clear hW g0 g1 k0 k1 kf0 kf1
              obtain ⟨A2,c2,hcut2,hr2⟩:=HDR.out q (by omega)
              obtain ⟨rl,hrl⟩:∃ x,x=l.drop q:=⟨_,rfl⟩
              rw [← hrl] at hcut2 hr2
              have HR2:=Aside0.mk hr2
              have HRL:=Aside0.mk hrl
              have HRLL:=Aside0.mk (show rl.length≤1048576 by rw [hrl,List.length_drop];have:=HA.out.len;omega)
              clear hr2 hrl
              by_cases cz:f.f0=0
              · have HZ:=Aside0.mk (show ∀ W,Calls Try.prog 141 #[.agg #[.int .i64 f.f0,.int .i64 f.f1]] W fun e w'=>e=.returned (.bool true)∧Below W.heap.size W w' from fun W=>by have:=zeroS W f;rwa [show (f.f0 == 0)=true from by rw [cz];rfl] at this)
                have HV:=Aside0.mk (show R=(l.take i ++ rl,true) from by rw [HV.out,if_pos cz,List.append_nil,HRL.out])
                clear cz
                go_wp2_with (first
                  | (go_at_call 141;refine (HZ.out _).mono ?_;rintro e w8 ⟨rfl,hb⟩;have HB8:=Aside0.mk (qj_ HBX.out hb);have HO8:=Aside0.mk (Kd.qm2_ HOX.out hb);clear hb)
                  | ((with_reducible refine qi2_ (b:=.append) (xs:=#[.tmp 69,.tmp 72]) rfl ?_);at_builtin;refine Kd.qp2_ k79 (w0:=w) w.heap.size rfl (.tmp 69) (.tmp 72) 24 79 (.agg #[(.string ⟨#[]⟩),(.int .i64 0),(.int .i64 0)]) 32 rfl Try.underlying24 info79' rfl (by decide) (by omega) v4 (l.take i) rl _ _ _ (fun _=>True) (fun _=>False) rfl rfl ?aO ?aR (fun _ _ h=>h) (fun _ h=>h.elim) ?aF ?aB ?aS ?aL ?_;(case aR=>exact Kd.qv1_ HR2.out HB8.out);(case aB=>exact HB8.out);(case aF=>exact (fun _ _=>trivial));(case aO=>exact HO8.out);(case aS=>exact qk_ HB8.out);(case aL=>have:=HRLL.out;have:=HA.out.len;rw [List.length_take];omega);intro v9 w9 ho hb hg hat;have HB9:=Aside0.mk hb;have HO9:=Aside0.mk ho;clear ho hb hg hat))
                go_returns
                rw [HV.out]
                exact ⟨_,rfl,HO9.out,HB9.out⟩
              · have HZ:=Aside0.mk (show ∀ W,Calls Try.prog 141 #[.agg #[.int .i64 f.f0,.int .i64 f.f1]] W fun e w'=>e=.returned (.bool false)∧Below W.heap.size W w' from fun W=>by have:=zeroS W f;rwa [show (f.f0 == 0)=false from by simpa using cz] at this)
                have HV:=Aside0.mk (show R=(l.take i ++ [⟨s,f⟩] ++ rl,true) from by rw [HV.out,if_neg cz,HRL.out])
                clear cz
                go_wp2_with (first
                  | (go_at_call 141;refine (HZ.out _).mono ?_;rintro e w8 ⟨rfl,hb⟩;have HB8:=Aside0.mk (qj_ HBX.out hb);have HO8:=Aside0.mk (Kd.qm2_ HOX.out hb);have F8:=FrAt.below HFX.out hb;have y0:=F8.c0;have y1:=F8.c1;clear F8 hb)
                  | ((with_reducible refine qi2_ (b:=.append) (xs:=#[.tmp 63,.tmp 67]) rfl ?_);at_builtin;refine Kd.R_append k79 (w0:=w) w.heap.size rfl (.tmp 63) (.tmp 67) 24 79 (.agg #[(.string ⟨#[]⟩),(.int .i64 0),(.int .i64 0)]) 32 rfl Try.underlying24 info79' rfl (by decide) (by omega) v4 (l.take i) ⟨s,f⟩ [.string s,.int .i64 f.f0,.int .i64 f.f1] (fun _=>True) (fun _=>False) rfl rfl ?aP (fun _ hk=>hk.elim) ?aF ?aO ?aB ?aS ?aL ?_;(case aP=>exact k79_mkM _ _ _ ⟨s,f⟩);(case aB=>exact HB8.out);(case aF=>exact (fun _ _=>trivial));(case aO=>exact HO8.out);(case aS=>exact (qk_ HB8.out));(case aL=>have:=HA.out.len;rw [List.length_take];omega);intro v7 w7 ho hb hg hat;have HB7:=Aside0.mk hb;have HO7:=Aside0.mk ho;clear ho hb hg hat)
                  | ((with_reducible refine qi2_ (b:=.append) (xs:=#[.tmp 69,.tmp 72]) rfl ?_);at_builtin;refine Kd.qp2_ k79 (w0:=w) w.heap.size rfl (.tmp 69) (.tmp 72) 24 79 (.agg #[(.string ⟨#[]⟩),(.int .i64 0),(.int .i64 0)]) 32 rfl Try.underlying24 info79' rfl (by decide) (by omega) v7 (l.take i ++ [⟨s,f⟩]) rl _ _ _ (fun _=>True) (fun _=>False) rfl rfl ?aO ?aR (fun _ _ h=>h) (fun _ h=>h.elim) ?aF ?aB ?aS ?aL ?_;(case aR=>exact Kd.qv1_ HR2.out HB7.out);(case aB=>exact HB7.out);(case aF=>exact (fun _ _=>trivial));(case aO=>exact HO7.out);(case aS=>exact qk_ HB7.out);(case aL=>have:=HRLL.out;have:=HA.out.len;rw [List.length_append,List.length_take,List.length_singleton];omega);intro v9 w9 ho hb hg hat;have HB9:=Aside0.mk hb;have HO9:=Aside0.mk ho;clear ho hb hg hat))
                all_goals
                  go_returns
                  rw [HV.out]
                  exact ⟨_,rfl,HO9.out,HB9.out⟩
        · have ceq2:(l[i].f0.toList == s.toList)=false:=by
            rw [beq_eq_false_iff_ne]
            intro h;rw [ByteArray.toList_eq,ByteArray.toList_eq] at h;exact ceq (ByteArray.ext (Array.toList_inj.1 h))
          have HV0:=Aside0.mk (HS1.out hlt ceq)
          clear ceq
          go_upto_region 11 with (first
            | (go_at_call 152;refine (befS _ _ _ false HBE.out).mono ?_;rintro e w1 ⟨rfl,hb⟩;have HBQ:=Aside0.mk (qj_ HBw.out hb);have HFQ:=Aside0.mk (FrAt.below HFr.out hb);clear hb)
            | ((with_reducible refine qu_ (N:=27) rfl ?_);refine Kd.R_lit k79 _ 79 ?hg (N:=27) ?hd (xs:=([]:List S79)) (inner:=[]) (ok:=fun _=>True) (okp:=fun _=>True) ?hr ?hp (fun _ hk=>hk) trivial (Below.refl _ _) (Nat.le_refl _) (by simp) ?_;(case hd=>rfl);(case hg=>rfl);(case hr=>first|(go_simp;done)|(go_simp;rfl));(case hp=>exact (Reps.none _ _));intro v3 w3 ho hb hg hnew;clear hg hnew;have HF3:=Aside0.mk (FrAt.below HFQ.out hb);have HB3:=Aside0.mk (qj_ HBQ.out hb);have HO3:=Aside0.mk (show TermsR w3 w.heap.size v3 [] from Kd.qn2_ ho HBQ.out.size);clear ho hb)
            | ((with_reducible refine qi2_ (b:=.append) (xs:=#[.tmp 27,.tmp 30]) rfl ?_);at_builtin;refine Kd.qp2_ k79 (w0:=w) w.heap.size rfl (.tmp 27) (.tmp 30) 24 79 (.agg #[(.string ⟨#[]⟩),(.int .i64 0),(.int .i64 0)]) 32 rfl Try.underlying24 info79' rfl (by decide) (by omega) v3 ([]:List S79) tl _ _ _ (fun _=>True) (fun _=>False) rfl rfl ?aO ?aR (fun _ _ h=>h) (fun _ h=>h.elim) ?aF ?aB ?aS ?aL ?_;(case aR=>exact Kd.qv1_ HTL.out HB3.out);(case aB=>exact HB3.out);(case aF=>exact (fun _ _=>trivial));(case aO=>exact HO3.out);(case aS=>exact qk_ HB3.out);(case aL=>have:=HTLL.out;rw [List.length_nil];omega);intro v4 w4 ho hb hg hat;rw [List.nil_append,HTE.out] at ho;have HF4:=Aside0.mk (show FrAt w4 w.heap.size a from qj3_ HF3.out hg (Kd.R_ne HO3.out HF3.out (by decide)));have HB4:=Aside0.mk hb;have HO4:=Aside0.mk ho;have x0:=HF4.out.c0;have x1:=HF4.out.c1;obtain ⟨u0,u1,u2⟩:=HT0.out _ HB4.out;clear ho hb hg hat))
          obtain ⟨A2,c2,hcut2,hr2⟩:=HDR.out i (by omega)
          obtain ⟨rl,hrl⟩:∃ x,x=l.drop i:=⟨_,rfl⟩
          rw [← hrl] at hcut2 hr2
          have HR2:=Aside0.mk hr2
          have HRL:=Aside0.mk hrl
          have HRLL:=Aside0.mk (show rl.length≤1048576 by rw [hrl,List.length_drop];have:=HA.out.len;omega)
          clear hr2 hrl
          by_cases cz:a.f0=0
          · have HZ:=Aside0.mk (show ∀ W,Calls Try.prog 141 #[.agg #[.int .i64 a.f0,.int .i64 a.f1]] W fun e w'=>e=.returned (.bool true)∧Below W.heap.size W w' from fun W=>by have:=zeroS W a;rwa [show (a.f0 == 0)=true from by rw [cz];rfl] at this)
            have HV:=Aside0.mk (show R=(l.take i ++ rl,true) from by rw [HV0.out,if_pos cz,List.append_nil,HRL.out])
            clear cz
            go_wp2_with (first
              | (go_at_call 141;refine (HZ.out _).mono ?_;rintro e w8 ⟨rfl,hb⟩;have HB8:=Aside0.mk (qj_ HB4.out hb);have HO8:=Aside0.mk (Kd.qm2_ HO4.out hb);clear hb)
              | ((with_reducible refine qi2_ (b:=.append) (xs:=#[.tmp 69,.tmp 72]) rfl ?_);at_builtin;refine Kd.qp2_ k79 (w0:=w) w.heap.size rfl (.tmp 69) (.tmp 72) 24 79 (.agg #[(.string ⟨#[]⟩),(.int .i64 0),(.int .i64 0)]) 32 rfl Try.underlying24 info79' rfl (by decide) (by omega) v4 (l.take i) rl _ _ _ (fun _=>True) (fun _=>False) rfl rfl ?aO ?aR (fun _ _ h=>h) (fun _ h=>h.elim) ?aF ?aB ?aS ?aL ?_;(case aR=>exact Kd.qv1_ HR2.out HB8.out);(case aB=>exact HB8.out);(case aF=>exact (fun _ _=>trivial));(case aO=>exact HO8.out);(case aS=>exact qk_ HB8.out);(case aL=>have:=HRLL.out;have:=HA.out.len;rw [List.length_take];omega);intro v9 w9 ho hb hg hat;have HB9:=Aside0.mk hb;have HO9:=Aside0.mk ho;clear ho hb hg hat))
            go_returns
            rw [HV.out]
            exact ⟨_,rfl,HO9.out,HB9.out⟩
          · have HZ:=Aside0.mk (show ∀ W,Calls Try.prog 141 #[.agg #[.int .i64 a.f0,.int .i64 a.f1]] W fun e w'=>e=.returned (.bool false)∧Below W.heap.size W w' from fun W=>by have:=zeroS W a;rwa [show (a.f0 == 0)=false from by simpa using cz] at this)
            have HV:=Aside0.mk (show R=(l.take i ++ [⟨s,a⟩] ++ rl,true) from by rw [HV0.out,if_neg cz,HRL.out])
            clear cz
            go_wp2_with (first
              | (go_at_call 141;refine (HZ.out _).mono ?_;rintro e w8 ⟨rfl,hb⟩;have HB8:=Aside0.mk (qj_ HB4.out hb);have HO8:=Aside0.mk (Kd.qm2_ HO4.out hb);have F8:=FrAt.below HF4.out hb;have y0:=F8.c0;have y1:=F8.c1;clear F8 hb)
              | ((with_reducible refine qi2_ (b:=.append) (xs:=#[.tmp 63,.tmp 67]) rfl ?_);at_builtin;refine Kd.R_append k79 (w0:=w) w.heap.size rfl (.tmp 63) (.tmp 67) 24 79 (.agg #[(.string ⟨#[]⟩),(.int .i64 0),(.int .i64 0)]) 32 rfl Try.underlying24 info79' rfl (by decide) (by omega) v4 (l.take i) ⟨s,a⟩ [.string s,.int .i64 a.f0,.int .i64 a.f1] (fun _=>True) (fun _=>False) rfl rfl ?aP (fun _ hk=>hk.elim) ?aF ?aO ?aB ?aS ?aL ?_;(case aP=>exact k79_mkM _ _ _ ⟨s,a⟩);(case aB=>exact HB8.out);(case aF=>exact (fun _ _=>trivial));(case aO=>exact HO8.out);(case aS=>exact (qk_ HB8.out));(case aL=>have:=HA.out.len;rw [List.length_take];omega);intro v7 w7 ho hb hg hat;have HB7:=Aside0.mk hb;have HO7:=Aside0.mk ho;clear ho hb hg hat)
              | ((with_reducible refine qi2_ (b:=.append) (xs:=#[.tmp 69,.tmp 72]) rfl ?_);at_builtin;refine Kd.qp2_ k79 (w0:=w) w.heap.size rfl (.tmp 69) (.tmp 72) 24 79 (.agg #[(.string ⟨#[]⟩),(.int .i64 0),(.int .i64 0)]) 32 rfl Try.underlying24 info79' rfl (by decide) (by omega) v7 (l.take i ++ [⟨s,a⟩]) rl _ _ _ (fun _=>True) (fun _=>False) rfl rfl ?aO ?aR (fun _ _ h=>h) (fun _ h=>h.elim) ?aF ?aB ?aS ?aL ?_;(case aR=>exact Kd.qv1_ HR2.out HB7.out);(case aB=>exact HB7.out);(case aF=>exact (fun _ _=>trivial));(case aO=>exact HO7.out);(case aS=>exact qk_ HB7.out);(case aL=>have:=HRLL.out;have:=HA.out.len;rw [List.length_append,List.length_take,List.length_singleton];omega);intro v9 w9 ho hb hg hat;have HB9:=Aside0.mk hb;have HO9:=Aside0.mk ho;clear ho hb hg hat))
            all_goals
              go_returns
              rw [HV.out]
              exact ⟨_,rfl,HO9.out,HB9.out⟩
      · have hltz:¬ (i:Int) < (l.length:Int):=by omega
        have HV0:=Aside0.mk (HN.out (List.getElem?_eq_none (by omega)))
        have HBQ:=HBw
        have HFQ:=HFr
        go_upto_region 11 with (first
          | ((with_reducible refine qu_ (N:=27) rfl ?_);refine Kd.R_lit k79 _ 79 ?hg (N:=27) ?hd (xs:=([]:List S79)) (inner:=[]) (ok:=fun _=>True) (okp:=fun _=>True) ?hr ?hp (fun _ hk=>hk) trivial (Below.refl _ _) (Nat.le_refl _) (by simp) ?_;(case hd=>rfl);(case hg=>rfl);(case hr=>first|(go_simp;done)|(go_simp;rfl));(case hp=>exact (Reps.none _ _));intro v3 w3 ho hb hg hnew;clear hg hnew;have HF3:=Aside0.mk (FrAt.below HFQ.out hb);have HB3:=Aside0.mk (qj_ HBQ.out hb);have HO3:=Aside0.mk (show TermsR w3 w.heap.size v3 [] from Kd.qn2_ ho HBQ.out.size);clear ho hb)
          | ((with_reducible refine qi2_ (b:=.append) (xs:=#[.tmp 27,.tmp 30]) rfl ?_);at_builtin;refine Kd.qp2_ k79 (w0:=w) w.heap.size rfl (.tmp 27) (.tmp 30) 24 79 (.agg #[(.string ⟨#[]⟩),(.int .i64 0),(.int .i64 0)]) 32 rfl Try.underlying24 info79' rfl (by decide) (by omega) v3 ([]:List S79) tl _ _ _ (fun _=>True) (fun _=>False) rfl rfl ?aO ?aR (fun _ _ h=>h) (fun _ h=>h.elim) ?aF ?aB ?aS ?aL ?_;(case aR=>exact Kd.qv1_ HTL.out HB3.out);(case aB=>exact HB3.out);(case aF=>exact (fun _ _=>trivial));(case aO=>exact HO3.out);(case aS=>exact qk_ HB3.out);(case aL=>have:=HTLL.out;rw [List.length_nil];omega);intro v4 w4 ho hb hg hat;rw [List.nil_append,HTE.out] at ho;have HF4:=Aside0.mk (show FrAt w4 w.heap.size a from qj3_ HF3.out hg (Kd.R_ne HO3.out HF3.out (by decide)));have HB4:=Aside0.mk hb;have HO4:=Aside0.mk ho;have x0:=HF4.out.c0;have x1:=HF4.out.c1; clear ho hb hg hat))
        obtain ⟨A2,c2,hcut2,hr2⟩:=HDR.out i (by omega)
        obtain ⟨rl,hrl⟩:∃ x,x=l.drop i:=⟨_,rfl⟩
        rw [← hrl] at hcut2 hr2
        have HR2:=Aside0.mk hr2
        have HRL:=Aside0.mk hrl
        have HRLL:=Aside0.mk (show rl.length≤1048576 by rw [hrl,List.length_drop];have:=HA.out.len;omega)
        clear hr2 hrl
        by_cases cz:a.f0=0
        · have HZ:=Aside0.mk (show ∀ W,Calls Try.prog 141 #[.agg #[.int .i64 a.f0,.int .i64 a.f1]] W fun e w'=>e=.returned (.bool true)∧Below W.heap.size W w' from fun W=>by have:=zeroS W a;rwa [show (a.f0 == 0)=true from by rw [cz];rfl] at this)
          have HV:=Aside0.mk (show R=(l.take i ++ rl,true) from by rw [HV0.out,if_pos cz,List.append_nil,HRL.out])
          clear cz
          go_wp2_with (first
            | (go_at_call 141;refine (HZ.out _).mono ?_;rintro e w8 ⟨rfl,hb⟩;have HB8:=Aside0.mk (qj_ HB4.out hb);have HO8:=Aside0.mk (Kd.qm2_ HO4.out hb);clear hb)
            | ((with_reducible refine qi2_ (b:=.append) (xs:=#[.tmp 69,.tmp 72]) rfl ?_);at_builtin;refine Kd.qp2_ k79 (w0:=w) w.heap.size rfl (.tmp 69) (.tmp 72) 24 79 (.agg #[(.string ⟨#[]⟩),(.int .i64 0),(.int .i64 0)]) 32 rfl Try.underlying24 info79' rfl (by decide) (by omega) v4 (l.take i) rl _ _ _ (fun _=>True) (fun _=>False) rfl rfl ?aO ?aR (fun _ _ h=>h) (fun _ h=>h.elim) ?aF ?aB ?aS ?aL ?_;(case aR=>exact Kd.qv1_ HR2.out HB8.out);(case aB=>exact HB8.out);(case aF=>exact (fun _ _=>trivial));(case aO=>exact HO8.out);(case aS=>exact qk_ HB8.out);(case aL=>have:=HRLL.out;have:=HA.out.len;rw [List.length_take];omega);intro v9 w9 ho hb hg hat;have HB9:=Aside0.mk hb;have HO9:=Aside0.mk ho;clear ho hb hg hat))
          go_returns
          rw [HV.out]
          exact ⟨_,rfl,HO9.out,HB9.out⟩
        · have HZ:=Aside0.mk (show ∀ W,Calls Try.prog 141 #[.agg #[.int .i64 a.f0,.int .i64 a.f1]] W fun e w'=>e=.returned (.bool false)∧Below W.heap.size W w' from fun W=>by have:=zeroS W a;rwa [show (a.f0 == 0)=false from by simpa using cz] at this)
          have HV:=Aside0.mk (show R=(l.take i ++ [⟨s,a⟩] ++ rl,true) from by rw [HV0.out,if_neg cz,HRL.out])
          clear cz
          go_wp2_with (first
            | (go_at_call 141;refine (HZ.out _).mono ?_;rintro e w8 ⟨rfl,hb⟩;have HB8:=Aside0.mk (qj_ HB4.out hb);have HO8:=Aside0.mk (Kd.qm2_ HO4.out hb);have F8:=FrAt.below HF4.out hb;have y0:=F8.c0;have y1:=F8.c1;clear F8 hb)
            | ((with_reducible refine qi2_ (b:=.append) (xs:=#[.tmp 63,.tmp 67]) rfl ?_);at_builtin;refine Kd.R_append k79 (w0:=w) w.heap.size rfl (.tmp 63) (.tmp 67) 24 79 (.agg #[(.string ⟨#[]⟩),(.int .i64 0),(.int .i64 0)]) 32 rfl Try.underlying24 info79' rfl (by decide) (by omega) v4 (l.take i) ⟨s,a⟩ [.string s,.int .i64 a.f0,.int .i64 a.f1] (fun _=>True) (fun _=>False) rfl rfl ?aP (fun _ hk=>hk.elim) ?aF ?aO ?aB ?aS ?aL ?_;(case aP=>exact k79_mkM _ _ _ ⟨s,a⟩);(case aB=>exact HB8.out);(case aF=>exact (fun _ _=>trivial));(case aO=>exact HO8.out);(case aS=>exact (qk_ HB8.out));(case aL=>have:=HA.out.len;rw [List.length_take];omega);intro v7 w7 ho hb hg hat;have HB7:=Aside0.mk hb;have HO7:=Aside0.mk ho;clear ho hb hg hat)
            | ((with_reducible refine qi2_ (b:=.append) (xs:=#[.tmp 69,.tmp 72]) rfl ?_);at_builtin;refine Kd.qp2_ k79 (w0:=w) w.heap.size rfl (.tmp 69) (.tmp 72) 24 79 (.agg #[(.string ⟨#[]⟩),(.int .i64 0),(.int .i64 0)]) 32 rfl Try.underlying24 info79' rfl (by decide) (by omega) v7 (l.take i ++ [⟨s,a⟩]) rl _ _ _ (fun _=>True) (fun _=>False) rfl rfl ?aO ?aR (fun _ _ h=>h) (fun _ h=>h.elim) ?aF ?aB ?aS ?aL ?_;(case aR=>exact Kd.qv1_ HR2.out HB7.out);(case aB=>exact HB7.out);(case aF=>exact (fun _ _=>trivial));(case aO=>exact HO7.out);(case aS=>exact qk_ HB7.out);(case aL=>have:=HRLL.out;have:=HA.out.len;rw [List.length_append,List.length_take,List.length_singleton];omega);intro v9 w9 ho hb hg hat;have HB9:=Aside0.mk hb;have HO9:=Aside0.mk ho;clear ho hb hg hat))
          all_goals
            go_returns
            rw [HV.out]
            exact ⟨_,rfl,HO9.out,HB9.out⟩
end Go.Proofs.Ytaiefdhenikiiaa.Base
namespace Go.Proofs.Ytaiefdhenikiiaa.Base
open Go.RowKit Go.Proofs.YtaiefdhenikiiaaW.PrintWords Go.Proofs.YtaiefdhenikiiaaW.PrintLast Go.Proofs.YtaiefdhenikiiaaW.PrintMore
set_option linter.unusedVariables false
set_option linter.unusedSimpArgs false
/-- What stands in memory while a sum is made. -/
structure AdS (w W:World) (bo:Nat) (d n:Int) (A:Option Addr) (ca la:Nat) (D2 N2:Int) (B:Option Addr) (cb lb:Nat) (k:S77) (vo:Value) (acc:List S79):Prop where
  sx:SrAt W w.heap.size d n (.slice A la ca)
  sy:SrAt W (w.heap.size+1) D2 N2 (.slice B lb cb)
  sk:FrAt W (w.heap.size+2) k
  sr:SrAt W (w.heap.size+3) 0 0 (.slice none 0 0)
  so:SrAt W bo d n vo
  ro:TermsR W w.heap.size vo acc
  be:Below w.heap.size w W
  lo:w.heap.size+3 < bo
theorem AdS.below {w W W':World} {bo:Nat} {d n D2 N2:Int} {A B:Option Addr} {ca la cb lb:Nat} {k:S77} {vo:Value} {acc:List S79} (H:AdS w W bo d n A ca la D2 N2 B cb lb k vo acc) (hb:Below W.heap.size W W'):AdS w W' bo d n A ca la D2 N2 B cb lb k vo acc :=
  ⟨H.sx.below hb,H.sy.below hb,H.sk.below hb,H.sr.below hb,H.so.below hb,Kd.qm2_ H.ro hb,qj_ H.be hb,H.lo⟩
theorem keep4 {w W:World} {a1 a2 a3 a4:Addr} {v1 v2 v3 v4:Value} (p1:w.cell? a1=some v1) (p2:w.cell? a2=some v2) (p3:w.cell? a3=some v3) (p4:w.cell? a4=some v4) (hb:Below w.heap.size w W) :
    W.cell? a1=some v1∧W.cell? a2=some v2∧W.cell? a3=some v3∧W.cell? a4=some v4 :=
  ⟨qq_ hb p1,qq_ hb p2,qq_ hb p3,qq_ hb p4⟩
theorem keep5 {w W:World} {a1 a2 a3 a4 a5:Addr} {v1 v2 v3 v4 v5:Value} (p1:w.cell? a1=some v1) (p2:w.cell? a2=some v2) (p3:w.cell? a3=some v3) (p4:w.cell? a4=some v4) (p5:w.cell? a5=some v5) (hb:Below w.heap.size w W) :
    W.cell? a1=some v1∧W.cell? a2=some v2∧W.cell? a3=some v3∧W.cell? a4=some v4∧W.cell? a5=some v5 :=
  ⟨qq_ hb p1,qq_ hb p2,qq_ hb p3,qq_ hb p4,qq_ hb p5⟩
set_option maxHeartbeats 32000000 in
set_option maxRecDepth 100000 in
theorem addFS (w:World) (D N D2 N2:Int) {x y:List S79} {A B:Option Addr} {ca cb:Nat} (hA:TmsC w A ca x) (hB:TmsC w B cb y) (hx:okL x) (hy:okL y) (hl:x.length+y.length≤1000000) (k:S77) (hk:okF k) :
    Calls Try.prog 125 #[.agg #[.int .i64 D,.int .i64 N,.slice A x.length ca],.agg #[.int .i64 D2,.int .i64 N2,.slice B y.length cb],.agg #[.int .i64 k.f0,.int .i64 k.f1]] w (OutR w D N (addSL x y k)):=by
  have hu:=Try.underlying38
  have hu2:=Try.underlying79
  have hu3:=Try.underlying77
  have HA:=Aside0.mk hA
  have HB:=Aside0.mk hB
  have HX:=Aside0.mk hx
  have HY:=Aside0.mk hy
  have HL:=Aside0.mk hl
  have HK:=Aside0.mk hk
  clear hA hB hx hy hl hk
  obtain ⟨R,hR⟩:∃ R,R=addSL x y k:=⟨_,rfl⟩
  rw [← hR]
  have HRR:=Aside0.mk hR
  clear hR
  go_enter Try.func125,Try.ntmps125
  go_wp2_with (first
    | (go_at_call 108;refine (emptyS _ D N (HA.out.below (qb_ (qb_ (qb_ (qb_ (Below.refl _ _) _) _) _) _))).mono ?_;rintro e w1 ⟨v,rfl,hv,hb⟩;obtain ⟨A1,c1,rfl⟩:=Kd.qf2_ hv;have S1:SrAt w1 w.heap.size D N (.slice A x.length ca):=qm_ (old_at (old_at (old_at (new_at rfl)))) hb;have S2:SrAt w1 (w.heap.size+1) D2 N2 (.slice B y.length cb):=qm_ (old_at (old_at (new_at (by simp)))) hb;have S4:FrAt w1 (w.heap.size+2) k:=qm_ (old_at (new_at (by simp))) hb;have S3:SrAt w1 (w.heap.size+3) 0 0 (.slice none 0 0):=qm_ (new_at (by simp)) hb;have HB1:=Aside0.mk (show Below w.heap.size w w1 from qj_ (qb_ (qb_ (qb_ (qb_ (Below.refl _ _) _) _) _) _) hb);have HL1:=Aside0.mk (show w.heap.size+3 < w1.heap.size from S3.lt);have HS1:=Aside0.mk S1;have HS2:=Aside0.mk S2;have HS3:=Aside0.mk S3;have HS4:=Aside0.mk S4;have x2:=S1.c2;have e2:(w1.alloc (.cells #[.int .i64 D,.int .i64 N,.slice A1 0 c1] 38)).cell? ⟨w.heap.size,2,none⟩=some (.slice A x.length ca):=(SrAt.alloc S1 _).c2;have HV1:=Aside0.mk (show TermsR w1 w.heap.size (.slice A1 ([]:List S79).length c1) [] from Kd.qn2_ hv (qk_ (qb_ (qb_ (qb_ (qb_ (Below.refl w.heap.size w) _) _) _) _)));clear S1 S2 S3 S4 hv hb)
    | ((with_reducible refine qi2_ (b:=.append) (xs:=#[.tmp 19,.tmp 21]) rfl ?_);at_builtin;refine Kd.qp2_ k79 (w0:=w) w.heap.size rfl (.tmp 19) (.tmp 21) 24 79 (.agg #[(.string ⟨#[]⟩),(.int .i64 0),(.int .i64 0)]) 32 rfl Try.underlying24 info79' rfl (by decide) (by omega) (.slice A1 0 c1) ([]:List S79) x _ _ _ (fun _=>True) (fun _=>False) rfl rfl ?aO ?aR (fun _ _ h=>h) (fun _ h=>h.elim) ?aF ?aB ?aS ?aL ?_;(case aR=>exact (HA.out.below (qb_ HB1.out _)).row);(case aB=>exact qb_ HB1.out _);(case aF=>exact (fun _ _=>trivial));(case aO=>exact Kd.qp1_ HV1.out _);(case aS=>exact qk_ (qb_ HB1.out _));(case aL=>have:=HL.out;rw [List.length_nil];omega);intro v2 w2 ho hb hg hat;rw [List.nil_append] at ho;have hr1:=Kd.qp1_ (o:=.cells #[.int .i64 D,.int .i64 N,.slice A1 0 c1] 38) HV1.out;have SO:SrAt w2 w1.heap.size D N (.slice A1 0 c1):=SrAt.grown (new_at rfl) hg (Kd.R_ne hr1 (new_at rfl:SrAt _ w1.heap.size D N (.slice A1 0 c1)) (by decide));have HS1':=Aside0.mk ((HS1.out.alloc _).grown hg (Kd.R_ne hr1 (HS1.out.alloc _) (by decide)));have HS2':=Aside0.mk ((HS2.out.alloc _).grown hg (Kd.R_ne hr1 (HS2.out.alloc _) (by decide)));have HS3':=Aside0.mk ((HS3.out.alloc _).grown hg (Kd.R_ne hr1 (HS3.out.alloc _) (by decide)));have HS4':=Aside0.mk (show FrAt w2 (w.heap.size+2) k from qj3_ (HS4.out.alloc _) hg (Kd.R_ne hr1 (HS4.out.alloc _) (by decide)));obtain ⟨A2,c2,rfl⟩:=Kd.qf2_ ho;have HO2:=Aside0.mk ho;have HB2:=Aside0.mk hb;have u2:=SO.c2;have uf:=qd_ SO 2;have HSO:=Aside0.mk SO;clear SO hr1 ho hb hg hat)
    | ((with_reducible refine qu_ (N:=24) rfl ?_);refine Kd.R_lit k79 _ 79 ?hg (N:=24) ?hd (xs:=([]:List S79)) (inner:=[]) (ok:=fun _=>True) (okp:=fun _=>True) ?hr ?hp (fun _ hk=>hk) trivial (Below.refl _ _) (Nat.le_refl _) (by simp) ?_;(case hd=>rfl);(case hg=>rfl);(case hr=>first|(go_simp;done)|(go_simp;rfl));(case hp=>exact (Reps.none _ _));intro v3 w3 ho hb hg hnew;clear hg hnew;have HIB:=Aside0.mk (show AdS w (w2.setCell ⟨w1.heap.size,2,none⟩ (.slice A2 x.length c2)) w1.heap.size D N A ca x.length D2 N2 B cb y.length k (.slice A2 x.length c2) x from ⟨HS1'.out.far (by have:=HL1.out;simp;omega) _,HS2'.out.far (by have:=HL1.out;simp;omega) _,HS4'.out.far (by have:=HL1.out;simp;omega) _,HS3'.out.far (by have:=HL1.out;simp;omega) _,HSO.out.put _,Kd.R_set HO2.out HSO.out (by decide) 2 _,HB2.out.setCell (by have:=HL1.out;simp;omega) _,HL1.out⟩);have HB3:=Aside0.mk hb;obtain ⟨A3,c3,rfl⟩:=Kd.qf2_ ho;have HV3:=Aside0.mk ho;clear ho hb))
  generalize w2.setCell ⟨w1.heap.size,2,none⟩ (.slice A2 x.length c2)=WB at HIB HB3 HV3
  clear HS1 HS2 HS3 HS4 HV1 HS1' HS2' HS3' HS4' HO2 HSO x2 e2 u2 uf
  go_loopg [9,10] y.length (fun gg v9 v10 wr=>∃ (i:Nat) (vs:Value) (sc:List S79),i≤y.length∧y.length - i≤gg∧v9=vs∧v10=.int .i64 i∧Aside0 (Below WB.heap.size WB wr)∧Aside0 (TermsR wr WB.heap.size vs sc)∧Aside0 (scaleL k (y.take i)=some sc))
  case atStart=>exact ⟨0,_,[],Nat.zero_le _,by omega,rfl,rfl,HB3,HV3,⟨by rw [List.take_zero];rfl⟩⟩
  case round =>
    clear HB3 HV3
    obtain ⟨i,vs,sc,hi,hg,he9,rfl,HBr,HV,HP⟩:=hrel
    have HI:=Aside0.mk (HIB.out.below HBr.out)
    have he9':=he9.symm
    subst he9'
    have HYL:=Aside0.mk (show y.length≤1000000 by have:=HL.out;omega)
    by_cases hlt:i < y.length
    · have hltz:(i:Int) < (y.length:Int):=by omega
      obtain ⟨ad,rfl,t0,t1,t2⟩:=at_T79 (Kd.qv1_ HB.out.row HI.out.be) (i:Int) (by omega) (by omega)
      have e1:rd_T79 y (i:Int)=y[i]:=by simp [rd_T79,List.getD_eq_getElem?_getD,List.getElem?_eq_getElem hlt]
      obtain ⟨z,hz⟩:∃ z,z=y[i]:=⟨_,rfl⟩
      rw [e1,← hz,Int.toNat_natCast] at t0 t1 t2
      have HOZ:=Aside0.mk (show okF z.f1 by rw [hz];exact HY.out _ (List.getElem_mem hlt))
      have HST:=Aside0.mk (show scaleL k (y.take (i+1))=if (timesM k z.f1).2=true then some (sc ++ [⟨z.f0,(timesM k z.f1).1⟩]) else none from by rw [scaleL_step hlt,HP.out,← hz];rfl)
      have HT0:=Aside0.mk t0
      have HSC:=Aside0.mk (scaleL_ok y i hi sc HP.out)
      have HFail:=Aside0.mk (show scaleL k (y.take (i+1))=none→R=none from fun h=>by
        rw [HRR.out,show addSL x y k=(scaleL k y).bind fun s=>addL x s from rfl,show scaleL k y=none from by
          conv=>lhs;rw [← List.take_append_drop (i+1) y]
          exact scaleL_none k _ _ h]
        rfl)
      clear e1 hz HP
      have p0:=HI.out.sk.c0
      have p1:=HI.out.sk.c1
      have p2:=HI.out.sy.c2
      obtain ⟨f,hf⟩:∃ f,f=tellF (timesM k z.f1):=⟨_,rfl⟩
      obtain ⟨ok,hok⟩:∃ ok,ok=(timesM k z.f1).2:=⟨_,rfl⟩
      have HTM:=Aside0.mk (show ∀ W,Calls Try.prog 178 #[.agg #[.int .i64 k.f0,.int .i64 k.f1],.agg #[.int .i64 z.f1.f0,.int .i64 z.f1.f1]] W fun e w'=>e=.returned (.tuple #[.agg #[.int .i64 f.f0,.int .i64 f.f1],.bool ok])∧Below W.heap.size W w' from fun W=>by rw [hf,hok];exact timesFS W HK.out HOZ.out)
      have HF:=Aside0.mk hf
      have HOK:=Aside0.mk hok
      clear hf hok
      go_wp2
      go_cut [11,12] (fun v11 v12 wx=>∃ b9:Nat,v11=.pointer (some ⟨b9,0,none⟩)∧v12=.bool ok∧Aside0 (FrAt wx b9 f)∧Aside0 (Below wr.heap.size wr wx))
      case first =>
        go_region_held3 (fun w'=>w'.cell? ⟨w.heap.size+2,0,none⟩=some (.int .i64 k.f0)∧w'.cell? ⟨w.heap.size+2,1,none⟩=some (.int .i64 k.f1)∧w'.cell? ⟨w.heap.size+1,2,none⟩=some (.slice (some ad) y.length cb)∧w'.cell? ⟨(ad.add (i * 3)).block,(ad.add (i * 3)).off+1,none⟩=some (.int .i64 z.f1.f0)∧w'.cell? ⟨(ad.add (i * 3)).block,(ad.add (i * 3)).off+2,none⟩=some (.int .i64 z.f1.f1)) (exact keep5 p0 p1 p2 t1 t2 (by (repeat' (first|(with_reducible exact Below.refl _ _)|(with_reducible exact HB4.out)|(with_reducible refine Below.setCell ?_ ?_ _)|(with_reducible refine qc_ ?_)|(with_reducible refine qa_ ?_ _)|(with_reducible refine qb_ ?_ _)|(simp;done)|(simp;omega)|(have:=HB4.out.size;simp;omega))))) (first|(go_at_call 178;refine (HTM.out _).mono ?_;rintro e w4 ⟨rfl,hb⟩;have HB4:=Aside0.mk (show Below wr.heap.size wr w4 from qj_ (by repeat (first|(with_reducible exact Below.refl _ _)|(with_reducible refine qc_ ?_)|(with_reducible refine qa_ ?_ _)|(with_reducible refine qb_ ?_ _))) hb);first|(refine (fun (Z:w4.heap[wr.heap.size]?=some (.cells #[.int .i64 0,.int .i64 0] 77 (0,0)))=>?_) (qm_ ?_ hb);rotate_left;(first|exact drew_at (new_at rfl)|exact new_at rfl);have HZZ:=Aside0.mk Z;have z0:=qg_ Z 0;have z1:=qg_ Z 1;have zf0:=qd_ Z 0;have zf1:=qd_ Z 1;clear Z hb)|(clear hb)))
        all_goals
          go_wp2_with fail
          go_meet
          case rel =>
            refine ⟨_,rfl,rfl,⟨?_⟩,⟨?_⟩⟩
            · (repeat' (first|((with_reducible refine FrAt.new' ?_ _);simp;done)|(with_reducible refine FrAt.put2 ?_ _)|(with_reducible exact HZZ.out)|(with_reducible refine FrAt.drewN ?_ _)|(with_reducible refine FrAt.drew ?_)|(with_reducible refine FrAt.alloc ?_ _)|((with_reducible refine FrAt.far ?_ ?_ _);rotate_left;(focus (first|(simp;done)|(simp;omega))))|(with_reducible refine drewN_at ?_)|(with_reducible refine drew_at ?_)|((with_reducible refine new_at ?_);simp;done)|(with_reducible refine old_at ?_)|((with_reducible refine qk1_ ?_ ?_ _);rotate_left;(focus (first|(simp;done)|(simp;omega))))))
            · (repeat' (first|(with_reducible exact Below.refl _ _)|(with_reducible exact HB4.out)|(with_reducible refine Below.setCell ?_ ?_ _)|(with_reducible refine qc_ ?_)|(with_reducible refine qa_ ?_ _)|(with_reducible refine qb_ ?_ _)|(simp;done)|(simp;omega)|(have:=HB4.out.size;simp;omega)))
      case rest =>
        obtain ⟨b9,rfl,rfl,HF9,HM4⟩:=hcut
        have HI4:=Aside0.mk (HI.out.below HM4.out)
        have HV4:=Aside0.mk (Kd.qm2_ HV.out HM4.out)
        have HB4:=Aside0.mk (qj_ HBr.out HM4.out)
        cases ok with
        | false =>
          have HRN:=Aside0.mk (HFail.out (by rw [HST.out,← HOK.out];rfl))
          clear p0 p1 p2 t0 t1 t2
          have SR:=HI4.out.sr
          have x0:wc.cell? ⟨w.heap.size+1+1+1,0,none⟩=some (.int .i64 0):=SR.c0
          have x1:wc.cell? ⟨w.heap.size+1+1+1,1,none⟩=some (.int .i64 0):=SR.c1
          have x2:wc.cell? ⟨w.heap.size+1+1+1,2,none⟩=some (.slice none 0 0):=SR.c2
          have f0:wc.frozen? ⟨w.heap.size+1+1+1,0,none⟩=false:=qd_ SR 0
          have f1:wc.frozen? ⟨w.heap.size+1+1+1,1,none⟩=false:=qd_ SR 1
          have f2:wc.frozen? ⟨w.heap.size+1+1+1,2,none⟩=false:=qd_ SR 2
          clear SR
          go_wp2
          refine bodyPost_ret (results_ct rfl _ _ (w.heap.size+3) 38 _ (0,0) _ rfl (qt_ (qt_ (qt_ HI4.out.sr 0 _) 1 _) 2 _) hu rfl (by kernel_rfl)) rfl ?_
          rw [HRN.out]
          exact ⟨_,rfl,Kd.R_nil _ _ _ _ _,((HI4.out.be.setCell (Nat.le_add_right _ 3) _).setCell (Nat.le_add_right _ 3) _).setCell (Nat.le_add_right _ 3) _⟩
        | true =>
          have HST2:=Aside0.mk (show scaleL k (y.take (i+1))=some (sc ++ [⟨z.f0,f⟩]) from by
            rw [HST.out,← HOK.out,HF.out];unfold tellF;rw [← HOK.out];rfl)
          have q0:=qq_ HM4.out HT0.out
          have q2:=HI4.out.sy.c2
          have f0:=HF9.out.c0
          have f1:=HF9.out.c1
          clear p0 p1 p2 t0 t1 t2
          go_wp2
          refine wp_region_noPanic ?_
          go_region_law ((refine Kd.qh3_ k79 (w0:=WB) WB.heap.size rfl (.tmp 46) (.tmp 55) 24 79 (.agg #[(.string ⟨#[]⟩),(.int .i64 0),(.int .i64 0)]) 32 rfl Try.underlying24 info79' rfl (by decide) (by omega) vs sc ⟨z.f0,f⟩ [.string z.f0,.int .i64 f.f0,.int .i64 f.f1] (fun _=>True) (fun k=>some k ≠ vs.ownBlock) rfl rfl (k79_mkM _ _ _ ⟨z.f0,f⟩) (fun _ h=>⟨trivial,h⟩) (fun _ _=>trivial) (Kd.R_drew HV4.out) (qc_ HB4.out) HB4.out.size (by have:=HSC.out.2;have:=HYL.out;omega) ?_;intro v6 w6 ho hb hg hat;have HR6:=Aside0.mk ho;have HB6:=Aside0.mk hb;clear ho hb hg hat))
          all_goals
            refine NoPanic.normal ?_
            go_wp2
            go_roundg (y.length - (i+1))
            case measure=>omega
            case rel=>exact ⟨i+1,_,sc ++ [⟨z.f0,f⟩],by omega,by omega,rfl,by have:=HYL.out;first|rfl|(rw [w64 (by omega) (by omega)];rfl),HB6,HR6,HST2⟩
    · have hltz:¬ (i:Int) < (y.length:Int):=by omega
      obtain rfl:i=y.length:=by omega
      have p2:=HI.out.sy.c2
      have hp:=HP.out
      rw [List.take_length] at hp
      have HPS:=Aside0.mk hp
      have HSC:=Aside0.mk (show okL sc∧sc.length=y.length from scaleL_ok y y.length (Nat.le_refl _) sc HP.out)
      have HRA:=Aside0.mk (show R=addL x sc from by rw [HRR.out,show addSL x y k=(scaleL k y).bind fun s=>addL x s from rfl,hp];rfl)
      obtain ⟨As,cs,rfl⟩:=Kd.qf2_ HV.out
      clear hp HP
      go_wp2
      go_loopg [13] sc.length (fun gg v13 wq=>∃ (j:Nat) (Ao:Option Addr) (co:Nat) (acc:List S79),j≤sc.length∧sc.length - j≤gg∧v13=.int .i64 j∧Aside0 (AdS w wq w1.heap.size D N A ca x.length D2 N2 B cb y.length k (.slice Ao acc.length co) acc)∧Aside0 (TermsR wq WB.heap.size (.slice As sc.length cs) sc)∧Aside0 (addL x (sc.take j)=some acc))
      case atStart=>exact ⟨0,A2,c2,x,Nat.zero_le _,by omega,rfl,HI,HV,⟨by rw [List.take_zero];rfl⟩⟩
      case round =>
        clear HI HV p2 HBr
        obtain ⟨j,Ao,co,acc,hj,hgj,rfl,HI,HV,HP⟩:=hrel
        have HSL:=Aside0.mk (show sc.length≤1000000 from by have:=HSC.out.2;have:=HYL.out;omega)
        by_cases hjl:j < sc.length
        · have hjz:(j:Int) < (sc.length:Int):=by omega
          obtain ⟨ad,rfl,t0,t1,t2⟩:=at_T79 (Kd.qg3_ HV.out).2.2 (j:Int) (by omega) (by omega)
          have e1:rd_T79 sc (j:Int)=sc[j]:=by simp [rd_T79,List.getD_eq_getElem?_getD,List.getElem?_eq_getElem hjl]
          obtain ⟨z,hz⟩:∃ z,z=sc[j]:=⟨_,rfl⟩
          rw [e1,← hz,Int.toNat_natCast] at t0 t1 t2
          have HOZ:=Aside0.mk (show okF z.f1 by rw [hz];exact HSC.out.1 _ (List.getElem_mem hjl))
          have HST:=Aside0.mk (show addL x (sc.take (j+1))=putL acc z.f0 z.f1 from by rw [addL_step hjl,HP.out,← hz];rfl)
          have HAO:=Aside0.mk (addL_ok HX.out HSC.out.1 j hj acc HP.out)
          have HFail:=Aside0.mk (show addL x (sc.take (j+1))=none→R=none from fun h=>by
            rw [HRA.out]
            conv=>lhs;rw [← List.take_append_drop (j+1) sc]
            exact addL_none x _ _ h)
          clear e1 hz HP
          have p2:=HI.out.so.c2
          have HTC:=Aside0.mk (show TmsC wr Ao co acc from (TmsC.of HI.out.ro (by have:=HAO.out.2;have:=HL.out;have:=HSC.out.2;omega)).1)
          obtain ⟨o,ho⟩:∃ o,o=putL acc z.f0 z.f1:=⟨_,rfl⟩
          have HPU:=Aside0.mk (show ∀ W,TmsC W Ao co acc→Calls Try.prog 158 #[.slice Ao acc.length co,.string z.f0,.agg #[.int .i64 z.f1.f0,.int .i64 z.f1.f1]] W (fun e w'=>∃ v:Value,e=.returned (.tuple #[v,.bool (tellL o).2])∧TermsR w' W.heap.size v (tellL o).1∧Below W.heap.size W w') from fun W H=>by rw [ho];exact putH W H HAO.out.1 z.f0 HOZ.out)
          rw [← ho] at HST
          clear ho
          cases o with
          | none =>
            have HRN:=Aside0.mk (HFail.out HST.out)
            go_wp2
            go_region_held3 (fun w'=>w'.cell? ⟨w1.heap.size,2,none⟩=some (.slice Ao acc.length co)∧w'.cell? (ad.add (j * 3))=some (.string z.f0)∧w'.cell? ⟨(ad.add (j * 3)).block,(ad.add (j * 3)).off+1,none⟩=some (.int .i64 z.f1.f0)∧w'.cell? ⟨(ad.add (j * 3)).block,(ad.add (j * 3)).off+2,none⟩=some (.int .i64 z.f1.f1)) (exact keep4 p2 t0 t1 t2 (by (repeat' (first|(with_reducible exact Below.refl _ _)|(with_reducible exact HB4.out)|(with_reducible refine Below.setCell ?_ ?_ _)|(with_reducible refine qc_ ?_)|(with_reducible refine qa_ ?_ _)|(with_reducible refine qb_ ?_ _)|(simp;done)|(simp;omega)|(have:=HB4.out.size;simp;omega))))) (first|(go_at_call 158;refine (HPU.out _ ?hT).mono ?_;(case hT=>exact HTC.out.below (by repeat (first|(with_reducible exact Below.refl _ _)|(with_reducible refine qc_ ?_)|(with_reducible refine qa_ ?_ _)|(with_reducible refine qb_ ?_ _))));rintro e w5 ⟨v,rfl,hv,hb⟩;have HB4:=Aside0.mk (show Below wr.heap.size wr w5 from qj_ (by repeat (first|(with_reducible exact Below.refl _ _)|(with_reducible refine qc_ ?_)|(with_reducible refine qa_ ?_ _)|(with_reducible refine qb_ ?_ _))) hb);have HI5:=Aside0.mk (HI.out.below HB4.out);have SR:=HI5.out.sr;have x0:w5.cell? ⟨w.heap.size+1+1+1,0,none⟩=some (.int .i64 0):=SR.c0;have x1:w5.cell? ⟨w.heap.size+1+1+1,1,none⟩=some (.int .i64 0):=SR.c1;have x2:w5.cell? ⟨w.heap.size+1+1+1,2,none⟩=some (.slice none 0 0):=SR.c2;have f0:w5.frozen? ⟨w.heap.size+1+1+1,0,none⟩=false:=qd_ SR 0;have f1:w5.frozen? ⟨w.heap.size+1+1+1,1,none⟩=false:=qd_ SR 1;have f2:w5.frozen? ⟨w.heap.size+1+1+1,2,none⟩=false:=qd_ SR 2;clear SR;clear hv hb))
            go_wp2
            refine bodyPost_ret (results_ct rfl _ _ (w.heap.size+3) 38 _ (0,0) _ rfl (qt_ (qt_ (qt_ HI5.out.sr 0 _) 1 _) 2 _) hu rfl (by kernel_rfl)) rfl ?_
            rw [HRN.out]
            exact ⟨_,rfl,Kd.R_nil _ _ _ _ _,((HI5.out.be.setCell (Nat.le_add_right _ 3) _).setCell (Nat.le_add_right _ 3) _).setCell (Nat.le_add_right _ 3) _⟩
          | some q =>
            go_wp2
            go_region_held3 (fun w'=>w'.cell? ⟨w1.heap.size,2,none⟩=some (.slice Ao acc.length co)∧w'.cell? (ad.add (j * 3))=some (.string z.f0)∧w'.cell? ⟨(ad.add (j * 3)).block,(ad.add (j * 3)).off+1,none⟩=some (.int .i64 z.f1.f0)∧w'.cell? ⟨(ad.add (j * 3)).block,(ad.add (j * 3)).off+2,none⟩=some (.int .i64 z.f1.f1)) (exact keep4 p2 t0 t1 t2 (by (repeat' (first|(with_reducible exact Below.refl _ _)|(with_reducible exact HB4.out)|(with_reducible refine Below.setCell ?_ ?_ _)|(with_reducible refine qc_ ?_)|(with_reducible refine qa_ ?_ _)|(with_reducible refine qb_ ?_ _)|(simp;done)|(simp;omega)|(have:=HB4.out.size;simp;omega))))) (first|(go_at_call 158;refine (HPU.out _ ?hT).mono ?_;(case hT=>exact HTC.out.below (by repeat (first|(with_reducible exact Below.refl _ _)|(with_reducible refine qc_ ?_)|(with_reducible refine qa_ ?_ _)|(with_reducible refine qb_ ?_ _))));rintro e w5 ⟨v,rfl,hv,hb⟩;obtain ⟨Aq,cq,rfl⟩:=Kd.qf2_ hv;have HB4:=Aside0.mk (show Below wr.heap.size wr w5 from qj_ (by repeat (first|(with_reducible exact Below.refl _ _)|(with_reducible refine qc_ ?_)|(with_reducible refine qa_ ?_ _)|(with_reducible refine qb_ ?_ _))) hb);have HI5:=Aside0.mk (HI.out.below HB4.out);have HV5:=Aside0.mk (show TermsR w5 WB.heap.size (.slice (some ad) sc.length cs) sc from Kd.qm2_ HV.out HB4.out);have HQ:=Aside0.mk (show TermsR w5 w.heap.size (.slice Aq q.length cq) q from Kd.qn2_ hv (Nat.le_trans HI.out.be.size (qk_ (show Below wr.heap.size wr _ from (by repeat (first|(with_reducible exact Below.refl _ _)|(with_reducible refine qc_ ?_)|(with_reducible refine qa_ ?_ _)|(with_reducible refine qb_ ?_ _)))))));have g2:=HI5.out.so.c2;have gf:=qd_ HI5.out.so 2;clear hv hb))
            go_wp2
            go_roundg (sc.length - (j+1))
            case measure=>omega
            case rel =>
              have hlo:=HI5.out.lo
              refine ⟨j+1,Aq,cq,q,by omega,by omega,by have:=HSL.out;first|rfl|(rw [w64 (by omega) (by omega)];rfl),⟨⟨?_,?_,?_,?_,HI5.out.so.put _,?_,?_,hlo⟩⟩,⟨Kd.R_set HV5.out HI5.out.so (by decide) 2 _⟩,HST⟩
              · exact HI5.out.sx.far (by simp;omega) _
              · exact HI5.out.sy.far (by simp;omega) _
              · exact HI5.out.sk.far (by simp;omega) _
              · exact HI5.out.sr.far (by simp;omega) _
              · exact Kd.R_set HQ.out HI5.out.so (by decide) 2 _
              · exact HI5.out.be.setCell (by simp;omega) _
        · have hjz:¬ (j:Int) < (sc.length:Int):=by omega
          obtain rfl:j=sc.length:=by omega
          have hp:=HP.out
          rw [List.take_length] at hp
          have HRS:=Aside0.mk (show R=some acc from HRA.out.trans hp)
          have y0:=HI.out.so.c0
          have y1:=HI.out.so.c1
          have y2:=HI.out.so.c2
          clear hp
          have SR:=HI.out.sr
          have x0:wr.cell? ⟨w.heap.size+1+1+1,0,none⟩=some (.int .i64 0):=SR.c0
          have x1:wr.cell? ⟨w.heap.size+1+1+1,1,none⟩=some (.int .i64 0):=SR.c1
          have x2:wr.cell? ⟨w.heap.size+1+1+1,2,none⟩=some (.slice none 0 0):=SR.c2
          have f0:wr.frozen? ⟨w.heap.size+1+1+1,0,none⟩=false:=qd_ SR 0
          have f1:wr.frozen? ⟨w.heap.size+1+1+1,1,none⟩=false:=qd_ SR 1
          have f2:wr.frozen? ⟨w.heap.size+1+1+1,2,none⟩=false:=qd_ SR 2
          clear SR
          go_wp2
          refine bodyPost_ret (results_ct rfl _ _ (w.heap.size+3) 38 _ (0,0) _ rfl (qt_ (qt_ (qt_ HI.out.sr 0 _) 1 _) 2 _) hu rfl (by kernel_rfl)) rfl ?_
          rw [HRS.out]
          refine ⟨_,rfl,?_,((HI.out.be.setCell (Nat.le_add_right _ 3) _).setCell (Nat.le_add_right _ 3) _).setCell (Nat.le_add_right _ 3) _⟩
          exact Kd.R_set (Kd.R_set (Kd.R_set HI.out.ro HI.out.sr (by decide) 0 _) (qt_ HI.out.sr 0 _) (by decide) 1 _) (qt_ (qt_ HI.out.sr 0 _) 1 _) (by decide) 2 _
end Go.Proofs.Ytaiefdhenikiiaa.Base
namespace Go.Proofs.Ytaiefdhenikiiaa.Base
open Go.RowKit Go.Proofs.YtaiefdhenikiiaaW.PrintWords Go.Proofs.YtaiefdhenikiiaaW.PrintLast Go.Proofs.YtaiefdhenikiiaaW.PrintMore
set_option linter.unusedVariables false
set_option linter.unusedSimpArgs false
theorem OutR.any {w:World} {d n:Int} {o:Option (List S79)} {e:Ending} {w':World} (h:OutR w d n o e w'):∃ (D N:Int) (A:Option Addr) (m c:Nat) (b:Bool),e=.returned (.tuple #[.agg #[.int .i64 D,.int .i64 N,.slice A m c],.bool b])∧Below w.heap.size w w':=by
  cases o with
  | none=>obtain ⟨v,rfl,hv,hb⟩:=h;obtain ⟨A,c,rfl⟩:=Kd.qf2_ hv;exact ⟨_,_,_,_,_,_,rfl,hb⟩
  | some l=>obtain ⟨v,rfl,hv,hb⟩:=h;obtain ⟨A,c,rfl⟩:=Kd.qf2_ hv;exact ⟨_,_,_,_,_,_,rfl,hb⟩
/-- What is handed back of a sum of terms,or of none. -/
def OutV (d n:Int) (o:Option (List S79)) (D N:Int) (l:List S79) (ok:Bool):Prop:=match o with
  | none=>D=0∧N=0∧l=[]∧ok=false
  | some q=>D=d∧N=n∧l=q∧ok=true
theorem OutR.val {w:World} {d n:Int} {o:Option (List S79)} {e:Ending} {w':World} (h:OutR w d n o e w'):∃ (D N:Int) (A:Option Addr) (c:Nat) (l:List S79) (ok:Bool),e=.returned (.tuple #[.agg #[.int .i64 D,.int .i64 N,.slice A l.length c],.bool ok])∧OutV d n o D N l ok∧TermsR w' w.heap.size (.slice A l.length c) l∧Below w.heap.size w w':=by
  cases o with
  | none=>obtain ⟨v,rfl,hv,hb⟩:=h;obtain ⟨A,c,rfl⟩:=Kd.qf2_ hv;exact ⟨_,_,_,_,[],_,rfl,⟨rfl,rfl,rfl,rfl⟩,hv,hb⟩
  | some l=>obtain ⟨v,rfl,hv,hb⟩:=h;obtain ⟨A,c,rfl⟩:=Kd.qf2_ hv;exact ⟨_,_,_,_,l,_,rfl,⟨rfl,rfl,rfl,rfl⟩,hv,hb⟩
theorem OutR.of {w:World} {d n:Int} {o:Option (List S79)} {w':World} {D N:Int} {l:List S79} {ok:Bool} {v:Value} (h:OutV d n o D N l ok) (hv:TermsR w' w.heap.size v l) (hb:Below w.heap.size w w'):OutR w d n o (.returned (.tuple #[.agg #[.int .i64 D,.int .i64 N,v],.bool ok])) w':=by
  cases o with
  | none=>obtain ⟨rfl,rfl,rfl,rfl⟩:=h;exact ⟨v,rfl,hv,hb⟩
  | some q=>obtain ⟨rfl,rfl,rfl,rfl⟩:=h;exact ⟨v,rfl,hv,hb⟩
theorem SrAt.put3 {w:World} {b:Nat} (h:w.heap[b]?=some (.cells #[.int .i64 0,.int .i64 0,.slice none 0 0] 38 (0,0))) (D N:Int) (v:Value):SrAt (((w.setCell ⟨b,0,none⟩ (.int .i64 D)).setCell ⟨b,1,none⟩ (.int .i64 N)).setCell ⟨b,2,none⟩ v) b D N v:=qt_ (qt_ (qt_ h 0 _) 1 _) 2 _
theorem SrAt.new {w:World} {b:Nat} {D N:Int} {v:Value} (h:b=w.heap.size):SrAt (w.alloc (.cells #[.int .i64 D,.int .i64 N,v] 38)) b D N v:=new_at h
theorem keep6 {w W:World} {a1 a2 a3 a4 a5 a6:Addr} {v1 v2 v3 v4 v5 v6:Value} (p1:w.cell? a1=some v1) (p2:w.cell? a2=some v2) (p3:w.cell? a3=some v3) (p4:w.cell? a4=some v4) (p5:w.cell? a5=some v5) (p6:w.cell? a6=some v6) (hb:Below w.heap.size w W) :
    W.cell? a1=some v1∧W.cell? a2=some v2∧W.cell? a3=some v3∧W.cell? a4=some v4∧W.cell? a5=some v5∧W.cell? a6=some v6 :=
  ⟨qq_ hb p1,qq_ hb p2,qq_ hb p3,qq_ hb p4,qq_ hb p5,qq_ hb p6⟩
theorem terms_len {d n:Nat} {t:Tb} (h:Like t (zeroT d n)) (hs:Sz d n):(termsT t).length≤20000:=by
  have h1:(termsT t).length≤(wordsD t.d t.n).length:=termsN_len t _
  have h2:(wordsD t.d t.n).length≤19683:=wordsD_small _ _ (by rw [h.1];exact hs.d3) (by rw [h.2.1];exact hs.n8)
  omega
theorem terms_okL {t:Tb} (h:t.Ok):okL (termsT t):=fun x hx=>by obtain ⟨l,_,_,e,_⟩:=mem_terms hx;rw [e];exact h.val l
set_option maxHeartbeats 32000000 in
set_option maxRecDepth 100000 in
theorem commS_1 (w:World) (d n:Nat) (hs:Sz d n) {t u:Tb} (ht:Like t (zeroT d n)) (hu:Like u (zeroT d n)) (hbt:t.bad=false) (hbu:u.bad=false) (hb1:(timesT t u).bad=true) {A B:Option Addr} {ca cb:Nat} (hA:TmsC w A ca (termsT t)) (hB:TmsC w B cb (termsT u)) :
    Calls Try.prog 109 #[.agg #[.int .i64 (d:Int),.int .i64 (n:Int),.slice A (termsT t).length ca],.agg #[.int .i64 (d:Int),.int .i64 (n:Int),.slice B (termsT u).length cb]] w (OutR w d n (outT (commT t u))):=by
  have hu2:=Try.underlying38
  have hu3:=Try.underlying77
  obtain ⟨o2,ho2⟩:∃ o,o=outT (timesT u t):=⟨_,rfl⟩
  have HT1:=Aside0.mk (show ∀ W,TmsC W A ca (termsT t)→TmsC W B cb (termsT u)→Calls Try.prog 133 #[.agg #[.int .i64 (d:Int),.int .i64 (n:Int),.slice A (termsT t).length ca],.agg #[.int .i64 (d:Int),.int .i64 (n:Int),.slice B (termsT u).length cb]] W (OkRes W 0 0 [] false) from fun W h1 h2=>by have:=timesS W d n hs ht hu hbt hbu h1 h2;rw [outT_bad hb1] at this;exact this)
  have HT2:=Aside0.mk (show ∀ W,TmsC W B cb (termsT u)→TmsC W A ca (termsT t)→Calls Try.prog 133 #[.agg #[.int .i64 (d:Int),.int .i64 (n:Int),.slice B (termsT u).length cb],.agg #[.int .i64 (d:Int),.int .i64 (n:Int),.slice A (termsT t).length ca]] W (OutR W d n o2) from fun W h1 h2=>by have:=timesS W d n hs hu ht hbu hbt h1 h2;rw [← ho2] at this;exact this)
  have HRN:=Aside0.mk (show outT (commT t u)=none from outT_bad (commT_bad (Or.inl hb1)))
  generalize outT (commT t u)=R at HRN ⊢
  generalize termsT t=lt at hA HT1 HT2 ⊢
  generalize termsT u=lu at hB HT1 HT2 ⊢
  have HA:=Aside0.mk hA
  have HB:=Aside0.mk hB
  clear ho2 hA hB ht hu hbt hbu hb1 hs
  obtain ⟨flag,hflag⟩:∃ b:Nat,b=0:=⟨0,rfl⟩
  go_enter Try.func109,Try.ntmps109
  go_wp2_with (first
    | (go_at_call 133;clear hflag;refine (HT1.out _ (HA.out.below (qb_ (qb_ (qb_ (Below.refl _ _) _) _) _)) (HB.out.below (qb_ (qb_ (qb_ (Below.refl _ _) _) _) _))).mono ?_;rintro e w1 h1;obtain ⟨v1,rfl,hv1,hb⟩:=h1;obtain ⟨A1,c1,rfl⟩:=Kd.qf2_ hv1;have HB1:=Aside0.mk (show Below w.heap.size w w1 from qj_ (qb_ (qb_ (qb_ (Below.refl _ _) _) _) _) hb);have SX:SrAt w1 w.heap.size d n (.slice A lt.length ca):=qm_ (old_at (old_at (new_at rfl))) hb;have SY:SrAt w1 (w.heap.size+1) d n (.slice B lu.length cb):=qm_ (old_at (new_at (by simp))) hb;have SR:SrAt w1 (w.heap.size+2) 0 0 (.slice none 0 0):=qm_ (new_at (by simp)) hb;have eSX0:(w1.alloc (.cells #[.int .i64 0,.int .i64 0,.slice A1 0 c1] 38)).cell? ⟨w.heap.size,0,none⟩=some (.int .i64 (d:Int)):=(SrAt.alloc SX _).c0;have eSX1:(w1.alloc (.cells #[.int .i64 0,.int .i64 0,.slice A1 0 c1] 38)).cell? ⟨w.heap.size,1,none⟩=some (.int .i64 (n:Int)):=(SrAt.alloc SX _).c1;have eSX2:(w1.alloc (.cells #[.int .i64 0,.int .i64 0,.slice A1 0 c1] 38)).cell? ⟨w.heap.size,2,none⟩=some (.slice A lt.length ca):=(SrAt.alloc SX _).c2;have eSY0:(w1.alloc (.cells #[.int .i64 0,.int .i64 0,.slice A1 0 c1] 38)).cell? ⟨w.heap.size+1,0,none⟩=some (.int .i64 (d:Int)):=(SrAt.alloc SY _).c0;have eSY1:(w1.alloc (.cells #[.int .i64 0,.int .i64 0,.slice A1 0 c1] 38)).cell? ⟨w.heap.size+1,1,none⟩=some (.int .i64 (n:Int)):=(SrAt.alloc SY _).c1;have eSY2:(w1.alloc (.cells #[.int .i64 0,.int .i64 0,.slice A1 0 c1] 38)).cell? ⟨w.heap.size+1,2,none⟩=some (.slice B lu.length cb):=(SrAt.alloc SY _).c2;have HSX:=Aside0.mk SX;have HSY:=Aside0.mk SY;have HSR:=Aside0.mk SR;have HV1:=Aside0.mk hv1;clear SX SY SR hv1 hb)
    | (go_at_call 133;refine (HT2.out _ (HB.out.below (qb_ HB1.out _)) (HA.out.below (qb_ HB1.out _))).mono ?_;rintro e w2 h2;obtain ⟨D2,N2,A2,m2,c2,b2,rfl,hb⟩:=h2.any;have HB2:=Aside0.mk (qj_ (qb_ HB1.out _) hb);have SR2:SrAt w2 (w.heap.size+2) 0 0 (.slice none 0 0):=(HSR.out.alloc _).below hb;have x0:(w2.alloc (.cells #[.int .i64 D2,.int .i64 N2,.slice A2 m2 c2] 38)).cell? ⟨w.heap.size+1+1,0,none⟩=some (.int .i64 0):=(SrAt.alloc SR2 _).c0;have f0:(w2.alloc (.cells #[.int .i64 D2,.int .i64 N2,.slice A2 m2 c2] 38)).frozen? ⟨w.heap.size+1+1,0,none⟩=false:=qd_ (SrAt.alloc SR2 (.cells #[.int .i64 D2,.int .i64 N2,.slice A2 m2 c2] 38)) 0;have x1:(w2.alloc (.cells #[.int .i64 D2,.int .i64 N2,.slice A2 m2 c2] 38)).cell? ⟨w.heap.size+1+1,1,none⟩=some (.int .i64 0):=(SrAt.alloc SR2 _).c1;have f1:(w2.alloc (.cells #[.int .i64 D2,.int .i64 N2,.slice A2 m2 c2] 38)).frozen? ⟨w.heap.size+1+1,1,none⟩=false:=qd_ (SrAt.alloc SR2 (.cells #[.int .i64 D2,.int .i64 N2,.slice A2 m2 c2] 38)) 1;have x2:(w2.alloc (.cells #[.int .i64 D2,.int .i64 N2,.slice A2 m2 c2] 38)).cell? ⟨w.heap.size+1+1,2,none⟩=some (.slice none 0 0):=(SrAt.alloc SR2 _).c2;have f2:(w2.alloc (.cells #[.int .i64 D2,.int .i64 N2,.slice A2 m2 c2] 38)).frozen? ⟨w.heap.size+1+1,2,none⟩=false:=qd_ (SrAt.alloc SR2 (.cells #[.int .i64 D2,.int .i64 N2,.slice A2 m2 c2] 38)) 2;have HSR2:=Aside0.mk SR2;clear SR2 h2 hb))
  refine bodyPost_ret (results_ct rfl _ _ (w.heap.size+2) 38 _ (0,0) _ rfl (qt_ (qt_ (qt_ (HSR2.out.alloc _) 0 _) 1 _) 2 _) hu2 rfl (by kernel_rfl)) rfl ?_
  rw [HRN.out]
  exact ⟨_,rfl,Kd.R_nil _ _ _ _ _,(((qb_ HB2.out _).setCell (Nat.le_add_right _ 2) _).setCell (Nat.le_add_right _ 2) _).setCell (Nat.le_add_right _ 2) _⟩
set_option maxHeartbeats 32000000 in
set_option maxRecDepth 100000 in
theorem commS_2 (w:World) (d n:Nat) (hs:Sz d n) {t u:Tb} (ht:Like t (zeroT d n)) (hu:Like u (zeroT d n)) (hbt:t.bad=false) (hbu:u.bad=false) (hb1:(timesT t u).bad=false) (hb2:(timesT u t).bad=true) {A B:Option Addr} {ca cb:Nat} (hA:TmsC w A ca (termsT t)) (hB:TmsC w B cb (termsT u)) :
    Calls Try.prog 109 #[.agg #[.int .i64 (d:Int),.int .i64 (n:Int),.slice A (termsT t).length ca],.agg #[.int .i64 (d:Int),.int .i64 (n:Int),.slice B (termsT u).length cb]] w (OutR w d n (outT (commT t u))):=by
  have hu2:=Try.underlying38
  have hu3:=Try.underlying77
  obtain ⟨l1,hl1⟩:∃ o,o=termsT (timesT t u):=⟨_,rfl⟩
  have HT1:=Aside0.mk (show ∀ W,TmsC W A ca (termsT t)→TmsC W B cb (termsT u)→Calls Try.prog 133 #[.agg #[.int .i64 (d:Int),.int .i64 (n:Int),.slice A (termsT t).length ca],.agg #[.int .i64 (d:Int),.int .i64 (n:Int),.slice B (termsT u).length cb]] W (OkRes W d n l1 true) from fun W h1 h2=>by have:=timesS W d n hs ht hu hbt hbu h1 h2;rw [outT_good hb1,← hl1] at this;exact this)
  have HT2:=Aside0.mk (show ∀ W,TmsC W B cb (termsT u)→TmsC W A ca (termsT t)→Calls Try.prog 133 #[.agg #[.int .i64 (d:Int),.int .i64 (n:Int),.slice B (termsT u).length cb],.agg #[.int .i64 (d:Int),.int .i64 (n:Int),.slice A (termsT t).length ca]] W (OkRes W 0 0 [] false) from fun W h1 h2=>by have:=timesS W d n hs hu ht hbu hbt h1 h2;rw [outT_bad hb2] at this;exact this)
  have HRN:=Aside0.mk (show outT (commT t u)=none from outT_bad (commT_bad (Or.inr hb2)))
  generalize outT (commT t u)=R at HRN ⊢
  generalize termsT t=lt at hA HT1 HT2 ⊢
  generalize termsT u=lu at hB HT1 HT2 ⊢
  have HA:=Aside0.mk hA
  have HB:=Aside0.mk hB
  clear hl1 hb2 hA hB ht hu hbt hbu hb1 hs
  obtain ⟨flag,hflag⟩:∃ b:Nat,b=0:=⟨0,rfl⟩
  go_enter Try.func109,Try.ntmps109
  go_wp2_with (first
    | (go_at_call 133;clear hflag;refine (HT1.out _ (HA.out.below (qb_ (qb_ (qb_ (Below.refl _ _) _) _) _)) (HB.out.below (qb_ (qb_ (qb_ (Below.refl _ _) _) _) _))).mono ?_;rintro e w1 h1;obtain ⟨v1,rfl,hv1,hb⟩:=h1;obtain ⟨A1,c1,rfl⟩:=Kd.qf2_ hv1;have HB1:=Aside0.mk (show Below w.heap.size w w1 from qj_ (qb_ (qb_ (qb_ (Below.refl _ _) _) _) _) hb);have SX:SrAt w1 w.heap.size d n (.slice A lt.length ca):=qm_ (old_at (old_at (new_at rfl))) hb;have SY:SrAt w1 (w.heap.size+1) d n (.slice B lu.length cb):=qm_ (old_at (new_at (by simp))) hb;have SR:SrAt w1 (w.heap.size+2) 0 0 (.slice none 0 0):=qm_ (new_at (by simp)) hb;have eSX0:(w1.alloc (.cells #[.int .i64 (d:Int),.int .i64 (n:Int),.slice A1 l1.length c1] 38)).cell? ⟨w.heap.size,0,none⟩=some (.int .i64 (d:Int)):=(SrAt.alloc SX _).c0;have eSX1:(w1.alloc (.cells #[.int .i64 (d:Int),.int .i64 (n:Int),.slice A1 l1.length c1] 38)).cell? ⟨w.heap.size,1,none⟩=some (.int .i64 (n:Int)):=(SrAt.alloc SX _).c1;have eSX2:(w1.alloc (.cells #[.int .i64 (d:Int),.int .i64 (n:Int),.slice A1 l1.length c1] 38)).cell? ⟨w.heap.size,2,none⟩=some (.slice A lt.length ca):=(SrAt.alloc SX _).c2;have eSY0:(w1.alloc (.cells #[.int .i64 (d:Int),.int .i64 (n:Int),.slice A1 l1.length c1] 38)).cell? ⟨w.heap.size+1,0,none⟩=some (.int .i64 (d:Int)):=(SrAt.alloc SY _).c0;have eSY1:(w1.alloc (.cells #[.int .i64 (d:Int),.int .i64 (n:Int),.slice A1 l1.length c1] 38)).cell? ⟨w.heap.size+1,1,none⟩=some (.int .i64 (n:Int)):=(SrAt.alloc SY _).c1;have eSY2:(w1.alloc (.cells #[.int .i64 (d:Int),.int .i64 (n:Int),.slice A1 l1.length c1] 38)).cell? ⟨w.heap.size+1,2,none⟩=some (.slice B lu.length cb):=(SrAt.alloc SY _).c2;have HSX:=Aside0.mk SX;have HSY:=Aside0.mk SY;have HSR:=Aside0.mk SR;have HV1:=Aside0.mk hv1;clear SX SY SR hv1 hb)
    | (go_at_call 133;refine (HT2.out _ (HB.out.below (qb_ HB1.out _)) (HA.out.below (qb_ HB1.out _))).mono ?_;rintro e w2 h2;obtain ⟨v2,rfl,hv2,hb⟩:=h2;obtain ⟨A2,c2,rfl⟩:=Kd.qf2_ hv2;have HB2:=Aside0.mk (qj_ (qb_ HB1.out _) hb);have SR2:SrAt w2 (w.heap.size+2) 0 0 (.slice none 0 0):=(HSR.out.alloc _).below hb;have x0:(w2.alloc (.cells #[.int .i64 0,.int .i64 0,.slice A2 0 c2] 38)).cell? ⟨w.heap.size+1+1,0,none⟩=some (.int .i64 0):=(SrAt.alloc SR2 _).c0;have f0:(w2.alloc (.cells #[.int .i64 0,.int .i64 0,.slice A2 0 c2] 38)).frozen? ⟨w.heap.size+1+1,0,none⟩=false:=qd_ (SrAt.alloc SR2 (.cells #[.int .i64 0,.int .i64 0,.slice A2 0 c2] 38)) 0;have x1:(w2.alloc (.cells #[.int .i64 0,.int .i64 0,.slice A2 0 c2] 38)).cell? ⟨w.heap.size+1+1,1,none⟩=some (.int .i64 0):=(SrAt.alloc SR2 _).c1;have f1:(w2.alloc (.cells #[.int .i64 0,.int .i64 0,.slice A2 0 c2] 38)).frozen? ⟨w.heap.size+1+1,1,none⟩=false:=qd_ (SrAt.alloc SR2 (.cells #[.int .i64 0,.int .i64 0,.slice A2 0 c2] 38)) 1;have x2:(w2.alloc (.cells #[.int .i64 0,.int .i64 0,.slice A2 0 c2] 38)).cell? ⟨w.heap.size+1+1,2,none⟩=some (.slice none 0 0):=(SrAt.alloc SR2 _).c2;have f2:(w2.alloc (.cells #[.int .i64 0,.int .i64 0,.slice A2 0 c2] 38)).frozen? ⟨w.heap.size+1+1,2,none⟩=false:=qd_ (SrAt.alloc SR2 (.cells #[.int .i64 0,.int .i64 0,.slice A2 0 c2] 38)) 2;have HSR2:=Aside0.mk SR2;clear SR2 hv2 hb))
  refine bodyPost_ret (results_ct rfl _ _ (w.heap.size+2) 38 _ (0,0) _ rfl (qt_ (qt_ (qt_ (HSR2.out.alloc _) 0 _) 1 _) 2 _) hu2 rfl (by kernel_rfl)) rfl ?_
  rw [HRN.out]
  exact ⟨_,rfl,Kd.R_nil _ _ _ _ _,(((qb_ HB2.out _).setCell (Nat.le_add_right _ 2) _).setCell (Nat.le_add_right _ 2) _).setCell (Nat.le_add_right _ 2) _⟩
set_option maxHeartbeats 32000000 in
set_option maxRecDepth 100000 in
theorem commS_3 (w:World) (d n:Nat) (hs:Sz d n) {t u:Tb} (ht:Like t (zeroT d n)) (hu:Like u (zeroT d n)) (hbt:t.bad=false) (hbu:u.bad=false) (hb1:(timesT t u).bad=false) (hb2:(timesT u t).bad=false) {A B:Option Addr} {ca cb:Nat} (hA:TmsC w A ca (termsT t)) (hB:TmsC w B cb (termsT u)) :
    Calls Try.prog 109 #[.agg #[.int .i64 (d:Int),.int .i64 (n:Int),.slice A (termsT t).length ca],.agg #[.int .i64 (d:Int),.int .i64 (n:Int),.slice B (termsT u).length cb]] w (OutR w d n (outT (commT t u))):=by
  have hu2:=Try.underlying38
  have hu3:=Try.underlying77
  have hlk1:=timesT_like' (u:=u) ht
  have hlk2:=timesT_like' (u:=t) hu
  obtain ⟨l1,hl1⟩:∃ o,o=termsT (timesT t u):=⟨_,rfl⟩
  obtain ⟨l2,hl2⟩:∃ o,o=termsT (timesT u t):=⟨_,rfl⟩
  have HT1:=Aside0.mk (show ∀ W,TmsC W A ca (termsT t)→TmsC W B cb (termsT u)→Calls Try.prog 133 #[.agg #[.int .i64 (d:Int),.int .i64 (n:Int),.slice A (termsT t).length ca],.agg #[.int .i64 (d:Int),.int .i64 (n:Int),.slice B (termsT u).length cb]] W (OkRes W d n l1 true) from fun W h1 h2=>by have:=timesS W d n hs ht hu hbt hbu h1 h2;rw [outT_good hb1,← hl1] at this;exact this)
  have HT2:=Aside0.mk (show ∀ W,TmsC W B cb (termsT u)→TmsC W A ca (termsT t)→Calls Try.prog 133 #[.agg #[.int .i64 (d:Int),.int .i64 (n:Int),.slice B (termsT u).length cb],.agg #[.int .i64 (d:Int),.int .i64 (n:Int),.slice A (termsT t).length ca]] W (OkRes W d n l2 true) from fun W h1 h2=>by have:=timesS W d n hs hu ht hbu hbt h1 h2;rw [outT_good hb2,← hl2] at this;exact this)
  have hz1:l1.length≤20000:=by rw [hl1];exact terms_len hlk1 hs
  have hz2:l2.length≤20000:=by rw [hl2];exact terms_len hlk2 hs
  have HAD:=Aside0.mk (show ∀ W A1 c1 A2 c2,TmsC W A1 c1 l1→TmsC W A2 c2 l2→Calls Try.prog 125 #[.agg #[.int .i64 (d:Int),.int .i64 (n:Int),.slice A1 l1.length c1],.agg #[.int .i64 (d:Int),.int .i64 (n:Int),.slice A2 l2.length c2],.agg #[.int .i64 (-1),.int .i64 1]] W (OutR W d n (outT (commT t u))) from fun W A1 c1 A2 c2 h1 h2=>by
    have:=addFS W d n d n h1 h2 (by rw [hl1];exact terms_okL hlk1.2.2) (by rw [hl2];exact terms_okL hlk2.2.2) (by omega) negF neg_okF
    rw [hl1,hl2,addS_terms (timesT t u) (timesT u t) (zeroT d n) hs hlk1 hlk2 hb1 hb2 negF neg_okF (by decide)] at this
    rw [hl1,hl2]
    exact this)
  have HZ1:=Aside0.mk hz1
  have HZ2:=Aside0.mk hz2
  generalize outT (commT t u)=R at HAD ⊢
  generalize termsT t=lt at hA HT1 HT2 ⊢
  generalize termsT u=lu at hB HT1 HT2 ⊢
  have HA:=Aside0.mk hA
  have HB:=Aside0.mk hB
  clear hl1 hl2 hlk1 hlk2 hz1 hz2 hb2 hA hB ht hu hbt hbu hb1 hs
  obtain ⟨flag,hflag⟩:∃ b:Nat,b=0:=⟨0,rfl⟩
  go_enter Try.func109,Try.ntmps109
  go_wp2_with (first
    | (go_at_call 133;clear hflag;refine (HT1.out _ (HA.out.below (qb_ (qb_ (qb_ (Below.refl _ _) _) _) _)) (HB.out.below (qb_ (qb_ (qb_ (Below.refl _ _) _) _) _))).mono ?_;rintro e w1 h1;obtain ⟨v1,rfl,hv1,hb⟩:=h1;obtain ⟨A1,c1,rfl⟩:=Kd.qf2_ hv1;have HB1:=Aside0.mk (show Below w.heap.size w w1 from qj_ (qb_ (qb_ (qb_ (Below.refl _ _) _) _) _) hb);have SX:SrAt w1 w.heap.size d n (.slice A lt.length ca):=qm_ (old_at (old_at (new_at rfl))) hb;have SY:SrAt w1 (w.heap.size+1) d n (.slice B lu.length cb):=qm_ (old_at (new_at (by simp))) hb;have SR:SrAt w1 (w.heap.size+2) 0 0 (.slice none 0 0):=qm_ (new_at (by simp)) hb;have eSX0:(w1.alloc (.cells #[.int .i64 (d:Int),.int .i64 (n:Int),.slice A1 l1.length c1] 38)).cell? ⟨w.heap.size,0,none⟩=some (.int .i64 (d:Int)):=(SrAt.alloc SX _).c0;have eSX1:(w1.alloc (.cells #[.int .i64 (d:Int),.int .i64 (n:Int),.slice A1 l1.length c1] 38)).cell? ⟨w.heap.size,1,none⟩=some (.int .i64 (n:Int)):=(SrAt.alloc SX _).c1;have eSX2:(w1.alloc (.cells #[.int .i64 (d:Int),.int .i64 (n:Int),.slice A1 l1.length c1] 38)).cell? ⟨w.heap.size,2,none⟩=some (.slice A lt.length ca):=(SrAt.alloc SX _).c2;have eSY0:(w1.alloc (.cells #[.int .i64 (d:Int),.int .i64 (n:Int),.slice A1 l1.length c1] 38)).cell? ⟨w.heap.size+1,0,none⟩=some (.int .i64 (d:Int)):=(SrAt.alloc SY _).c0;have eSY1:(w1.alloc (.cells #[.int .i64 (d:Int),.int .i64 (n:Int),.slice A1 l1.length c1] 38)).cell? ⟨w.heap.size+1,1,none⟩=some (.int .i64 (n:Int)):=(SrAt.alloc SY _).c1;have eSY2:(w1.alloc (.cells #[.int .i64 (d:Int),.int .i64 (n:Int),.slice A1 l1.length c1] 38)).cell? ⟨w.heap.size+1,2,none⟩=some (.slice B lu.length cb):=(SrAt.alloc SY _).c2;have HSX:=Aside0.mk SX;have HSY:=Aside0.mk SY;have HSR:=Aside0.mk SR;have HV1:=Aside0.mk hv1;clear SX SY SR hv1 hb)
    | (go_at_call 133;refine (HT2.out _ (HB.out.below (qb_ HB1.out _)) (HA.out.below (qb_ HB1.out _))).mono ?_;rintro e w2 h2;obtain ⟨v2,rfl,hv2,hb⟩:=h2;obtain ⟨A2,c2,rfl⟩:=Kd.qf2_ hv2;have HB2:=Aside0.mk (qj_ (qb_ HB1.out _) hb);have HSR2:=Aside0.mk ((HSR.out.alloc (.cells #[.int .i64 (d:Int),.int .i64 (n:Int),.slice A1 l1.length c1] 38)).below hb);have HS6:=Aside0.mk (show SrAt w2 w1.heap.size d n (.slice A1 l1.length c1) from qm_ (new_at rfl) hb);have HV12:=Aside0.mk (show TermsR w2 w.heap.size (.slice A1 l1.length c1) l1 from Kd.qm2_ (Kd.qp1_ (Kd.qn2_ HV1.out (qk_ (qb_ (qb_ (qb_ (Below.refl w.heap.size w) _) _) _))) _) hb);have HV2:=Aside0.mk (show TermsR w2 w.heap.size (.slice A2 l2.length c2) l2 from Kd.qn2_ hv2 (qk_ (qb_ HB1.out _)));clear hv2 hb))
  generalize hW:World.alloc w2 _=W5
  have S6:SrAt W5 w1.heap.size d n (.slice A1 l1.length c1):=by rw [← hW];exact HS6.out.alloc _
  have S8:SrAt W5 w2.heap.size d n (.slice A2 l2.length c2):=by rw [← hW];exact new_at rfl
  have HC1:=Aside0.mk (show TmsC W5 A1 c1 l1 from by rw [← hW];exact (TmsC.of (Kd.qp1_ HV12.out _) (by have:=HZ1.out;omega)).1)
  have HC2:=Aside0.mk (show TmsC W5 A2 c2 l2 from by rw [← hW];exact (TmsC.of (Kd.qp1_ HV2.out _) (by have:=HZ2.out;omega)).1)
  have HB5:=Aside0.mk (show Below w.heap.size w W5 from by rw [← hW];exact qb_ HB2.out _)
  have HSR5:=Aside0.mk (show SrAt W5 (w.heap.size+2) 0 0 (.slice none 0 0) from by rw [← hW];exact HSR2.out.alloc _)
  have p0:=S6.c0
  have p1:=S6.c1
  have p2:=S6.c2
  have q0:=S8.c0
  have q1:=S8.c1
  have q2:=S8.c2
  clear hW S6 S8 HSX HSY HSR HSR2 HS6 HV1 HV12 HV2 eSX0 eSX1 eSX2 eSY0 eSY1 eSY2
  go_cut [10,11] (fun v10 v11 wx=>∃ (b9:Nat) (D N:Int) (Ax:Option Addr) (cx:Nat) (l:List S79) (ok:Bool),v10=.pointer (some ⟨b9,0,none⟩)∧v11=.bool ok∧Aside0 (SrAt wx b9 D N (.slice Ax l.length cx))∧Aside0 (TermsR wx w.heap.size (.slice Ax l.length cx) l)∧Aside0 (OutV d n R D N l ok)∧Aside0 (Below W5.heap.size W5 wx))
  case first =>
    go_region_held3 (fun w'=>w'.cell? ⟨w1.heap.size,0,none⟩=some (.int .i64 (d:Int))∧w'.cell? ⟨w1.heap.size,1,none⟩=some (.int .i64 (n:Int))∧w'.cell? ⟨w1.heap.size,2,none⟩=some (.slice A1 l1.length c1)∧w'.cell? ⟨w2.heap.size,0,none⟩=some (.int .i64 (d:Int))∧w'.cell? ⟨w2.heap.size,1,none⟩=some (.int .i64 (n:Int))∧w'.cell? ⟨w2.heap.size,2,none⟩=some (.slice A2 l2.length c2)) (exact keep6 p0 p1 p2 q0 q1 q2 (by (repeat' (first|(with_reducible exact Below.refl _ _)|(with_reducible exact HB7.out)|(with_reducible exact HB6.out)|(with_reducible refine Below.setCell ?_ ?_ _)|(with_reducible refine qc_ ?_)|(with_reducible refine qa_ ?_ _)|(with_reducible refine qb_ ?_ _)|(simp;done)|(simp;omega)|(have h6_:=HB6.out.size;simp;omega)|(have h7_:=HB7.out.size;simp;omega))))) (first
      | (go_at_call 124;refine (oneS _ (-1)).mono ?_;rintro e w6 ⟨rfl,hb⟩;have HB6:=Aside0.mk (show Below W5.heap.size W5 w6 from qj_ (by repeat (first|(with_reducible exact Below.refl _ _)|(with_reducible refine qc_ ?_)|(with_reducible refine qa_ ?_ _)|(with_reducible refine qb_ ?_ _))) hb);first|(refine (fun (Z:w6.heap[W5.heap.size]?=some (.cells #[.int .i64 0,.int .i64 0,.slice none 0 0] 38 (0,0)))=>?_) (qm_ ?_ hb);rotate_left;(first|exact drew_at (new_at rfl)|exact new_at rfl);have HZZ:=Aside0.mk Z;have z0:=qg_ Z 0;have z1:=qg_ Z 1;have z2:=qg_ Z 2;have zf0:=qd_ Z 0;have zf1:=qd_ Z 1;have zf2:=qd_ Z 2;clear Z)|skip;clear hb)
      | (go_at_call 125;refine (HAD.out _ _ _ _ _ (HC1.out.below (by repeat (first|(with_reducible exact Below.refl _ _)|(with_reducible exact HB6.out)|(with_reducible refine qc_ ?_)|(with_reducible refine qa_ ?_ _)|(with_reducible refine qb_ ?_ _)))) (HC2.out.below (by repeat (first|(with_reducible exact Below.refl _ _)|(with_reducible exact HB6.out)|(with_reducible refine qc_ ?_)|(with_reducible refine qa_ ?_ _)|(with_reducible refine qb_ ?_ _))))).mono ?_;rintro e w7 h7;obtain ⟨D7,N7,A7,c7,l7,ok7,rfl,ho7,hv7,hb⟩:=h7.val;have HB7:=Aside0.mk (show Below W5.heap.size W5 w7 from qj_ (by repeat (first|(with_reducible exact Below.refl _ _)|(with_reducible exact HB6.out)|(with_reducible refine qc_ ?_)|(with_reducible refine qa_ ?_ _)|(with_reducible refine qb_ ?_ _))) hb);have HO7:=Aside0.mk ho7;have HV7:=Aside0.mk (show TermsR w7 w.heap.size (.slice A7 l7.length c7) l7 from Kd.qn2_ hv7 (Nat.le_trans HB5.out.size (qk_ (show Below W5.heap.size W5 _ from (by repeat (first|(with_reducible exact Below.refl _ _)|(with_reducible exact HB6.out)|(with_reducible refine qc_ ?_)|(with_reducible refine qa_ ?_ _)|(with_reducible refine qb_ ?_ _)))))));first|(refine (fun (Z:w7.heap[W5.heap.size]?=some (.cells #[.int .i64 0,.int .i64 0,.slice none 0 0] 38 (0,0)))=>?_) (qm_ ?_ hb);rotate_left;(first|exact HZZ.out|exact drew_at HZZ.out);have HZZ:=Aside0.mk Z;have z0:=qg_ Z 0;have z1:=qg_ Z 1;have z2:=qg_ Z 2;have zf0:=qd_ Z 0;have zf1:=qd_ Z 1;have zf2:=qd_ Z 2;clear Z)|(refine (fun (Z:w7.heap[w6.heap.size]?=some (.cells #[.int .i64 0,.int .i64 0,.slice none 0 0] 38 (0,0)))=>?_) (qm_ ?_ hb);rotate_left;(first|exact drew_at (new_at rfl)|exact new_at rfl);have HZZ:=Aside0.mk Z;have z0:=qg_ Z 0;have z1:=qg_ Z 1;have z2:=qg_ Z 2;have zf0:=qd_ Z 0;have zf1:=qd_ Z 1;have zf2:=qd_ Z 2;clear Z)|skip;clear h7 ho7 hv7 hb))
    all_goals
      go_wp2_with fail
      go_meet
      case rel =>
        refine ⟨_,D7,N7,A7,c7,l7,ok7,rfl,rfl,⟨?_⟩,⟨?_⟩,HO7,⟨?_⟩⟩
        · (repeat' (first|((with_reducible refine SrAt.new ?_);simp;done)|(with_reducible refine SrAt.put3 ?_ _ _ _)|(with_reducible exact HZZ.out)|(with_reducible refine SrAt.alloc ?_ _)|(with_reducible refine SrAt.drew ?_)|(with_reducible refine drewN_at ?_)|(with_reducible refine drew_at ?_)|((with_reducible refine new_at ?_);simp;done)|(with_reducible refine old_at ?_)))
        · (repeat' (first|(with_reducible exact HV7.out)|(with_reducible exact Kd.qp1_ HV7.out _)|(with_reducible refine Kd.qp1_ ?_ _)|(with_reducible refine Kd.R_drew ?_)|exact Kd.R_set (Kd.R_set (Kd.R_set HV7.out HZZ.out (by decide) 0 _) (qt_ HZZ.out 0 _) (by decide) 1 _) (qt_ (qt_ HZZ.out 0 _) 1 _) (by decide) 2 _))
        · (repeat' (first|(with_reducible exact Below.refl _ _)|(with_reducible exact HB7.out)|(with_reducible exact HB6.out)|(with_reducible refine Below.setCell ?_ ?_ _)|(with_reducible refine qc_ ?_)|(with_reducible refine qa_ ?_ _)|(with_reducible refine qb_ ?_ _)|(simp;done)|(simp;omega)|(have h6_:=HB6.out.size;simp;omega)|(have h7_:=HB7.out.size;simp;omega)))
  case rest =>
    obtain ⟨b9,D,N,Ax,cx,l,ok,rfl,rfl,HS9,HV9,HO9,HM9⟩:=hcut
    have HB9:=Aside0.mk (qj_ HB5.out HM9.out)
    have y0:=HS9.out.c0
    have y1:=HS9.out.c1
    have y2:=HS9.out.c2
    have SR:=HSR5.out.below HM9.out
    have x0:wc.cell? ⟨w.heap.size+1+1,0,none⟩=some (.int .i64 0):=SR.c0
    have x1:wc.cell? ⟨w.heap.size+1+1,1,none⟩=some (.int .i64 0):=SR.c1
    have x2:wc.cell? ⟨w.heap.size+1+1,2,none⟩=some (.slice none 0 0):=SR.c2
    have f0:wc.frozen? ⟨w.heap.size+1+1,0,none⟩=false:=qd_ SR 0
    have f1:wc.frozen? ⟨w.heap.size+1+1,1,none⟩=false:=qd_ SR 1
    have f2:wc.frozen? ⟨w.heap.size+1+1,2,none⟩=false:=qd_ SR 2
    have HSR9:=Aside0.mk SR
    clear SR p0 p1 p2 q0 q1 q2
    go_wp2
    refine bodyPost_ret (results_ct rfl _ _ (w.heap.size+2) 38 _ (0,0) _ rfl (qt_ (qt_ (qt_ HSR9.out 0 _) 1 _) 2 _) hu2 rfl (by kernel_rfl)) rfl ?_
    refine OutR.of HO9.out ?_ (((HB9.out.setCell (Nat.le_add_right _ 2) _).setCell (Nat.le_add_right _ 2) _).setCell (Nat.le_add_right _ 2) _)
    exact Kd.R_set (Kd.R_set (Kd.R_set HV9.out HSR9.out (by decide) 0 _) (qt_ HSR9.out 0 _) (by decide) 1 _) (qt_ (qt_ HSR9.out 0 _) 1 _) (by decide) 2 _
theorem commS (w:World) (d n:Nat) (hs:Sz d n) {t u:Tb} (ht:Like t (zeroT d n)) (hu:Like u (zeroT d n)) (hbt:t.bad=false) (hbu:u.bad=false) {A B:Option Addr} {ca cb:Nat} (hA:TmsC w A ca (termsT t)) (hB:TmsC w B cb (termsT u)) :
    Calls Try.prog 109 #[.agg #[.int .i64 (d:Int),.int .i64 (n:Int),.slice A (termsT t).length ca],.agg #[.int .i64 (d:Int),.int .i64 (n:Int),.slice B (termsT u).length cb]] w (OutR w d n (outT (commT t u))):=by
  cases h1:(timesT t u).bad with
  | true=>exact commS_1 w d n hs ht hu hbt hbu h1 hA hB
  | false =>
    cases h2:(timesT u t).bad with
    | true=>exact commS_2 w d n hs ht hu hbt hbu h1 h2 hA hB
    | false=>exact commS_3 w d n hs ht hu hbt hbu h1 h2 hA hB
end Go.Proofs.Ytaiefdhenikiiaa.Base
namespace Go.Proofs.Ytaiefdhenikiiaa.Base
open Go.RowKit Go.Proofs.YtaiefdhenikiiaaW.PrintWords Go.Proofs.YtaiefdhenikiiaaW.PrintLast Go.Proofs.YtaiefdhenikiiaaW.PrintMore
set_option linter.unusedVariables false
set_option linter.unusedSimpArgs false
theorem letterS (W:World) (D N:Int) {A:Option Addr} {c:Nat} {l:List S79} (H:TmsC W A c l) (s:ByteArray):Calls Try.prog 162 #[.agg #[.int .i64 D,.int .i64 N,.slice A l.length c],.string s] W fun e w'=>∃ v:Value,e=.returned (.agg #[.int .i64 D,.int .i64 N,v])∧TermsR w' W.heap.size v [⟨s,oneF⟩]∧Below W.heap.size W w' :=
  qj2_.calls _ _ _ _ _ _ _ _ _ _ H.row H.cap rfl
theorem bracketT_one {d n:Nat} {l:List Nat} (h:l.length=1):bracketT d n l=letterT d n l:=by
  unfold bracketT;unfold bracketN;rw [if_pos h]
theorem leftS_bad {d n:Nat} {l:List Nat} {m:Nat} (h:(leftS d n l m).bad=true):∀ q,(leftS d n l (m+q)).bad=true
  | 0=>h
  | q+1=>by
    show (leftS d n l (m+q+1)).bad=true
    rw [leftS_succ]
    exact commT_bad (Or.inl (timesT_bad (Or.inl (leftS_bad h q))))
theorem keep3 {w W:World} {a1 a2 a3:Addr} {v1 v2 v3:Value} (p1:w.cell? a1=some v1) (p2:w.cell? a2=some v2) (p3:w.cell? a3=some v3) (hb:Below w.heap.size w W) :
    W.cell? a1=some v1∧W.cell? a2=some v2∧W.cell? a3=some v3:=⟨qq_ hb p1,qq_ hb p2,qq_ hb p3⟩
set_option maxHeartbeats 32000000 in
set_option maxRecDepth 100000 in
theorem leftSp (w:World) (d n:Nat) (hs:Sz d n) (l:List Nat) (hl:isD d n l) {A:Option Addr} {ca:Nat} {lx:List S79} (hA:TmsC w A ca lx) :
    Calls Try.prog 93 #[.agg #[.int .i64 (d:Int),.int .i64 (n:Int),.slice A lx.length ca],.string (encW l)] w (OutR w d n (outT (leftT d n l))):=by
  have hu2:=Try.underlying38
  have HA:=Aside0.mk hA
  have HS:=Aside0.mk hs
  have HL:=Aside0.mk hl
  have hsz:(encW l).size=l.length:=encW_size l
  have h8:l.length≤8:=by have:=hl.1;have:=hs.n8;omega
  by_cases h0:l=[]
  · subst h0
    have HRN:=Aside0.mk (show outT (leftT d n [])=some [] from by unfold leftT;rw [if_pos rfl,outT_good (zeroT_good d n),zero_terms])
    have he:(encW []).toList.isEmpty=true:=by rw [encW_list];rfl
    generalize outT (leftT d n [])=R at HRN ⊢
    clear hA hs hl
    go_enter Try.func93,Try.ntmps93
    go_wp2_with (go_at_call 108;refine (emptyS _ d n (HA.out.below (qb_ (qb_ (Below.refl _ _) _) _))).mono ?_;rintro e w1 ⟨v,rfl,hv,hb⟩;obtain ⟨A1,c1,rfl⟩:=Kd.qf2_ hv;have HB1:=Aside0.mk (show Below w.heap.size w w1 from qj_ (qb_ (qb_ (Below.refl _ _) _) _) hb);have HV1:=Aside0.mk (Kd.qn2_ hv (qk_ (qb_ (qb_ (Below.refl w.heap.size w) _) _)));have SR:SrAt w1 (w.heap.size+1) 0 0 (.slice none 0 0):=qm_ (new_at (by simp)) hb;have x0:=SR.c0;have x1:=SR.c1;have x2:=SR.c2;have f0:=qd_ SR 0;have f1:=qd_ SR 1;have f2:=qd_ SR 2;have HSRX:=Aside0.mk SR;clear SR hv hb)
    refine bodyPost_ret (results_ct rfl _ _ (w.heap.size+1) 38 _ (0,0) _ rfl (qt_ (qt_ (qt_ HSRX.out 0 _) 1 _) 2 _) hu2 rfl (by kernel_rfl)) rfl ?_
    rw [HRN.out]
    refine ⟨_,rfl,?_,((HB1.out.setCell (Nat.le_add_right _ 1) _).setCell (Nat.le_add_right _ 1) _).setCell (Nat.le_add_right _ 1) _⟩
    exact Kd.R_set (Kd.R_set (Kd.R_set HV1.out HSRX.out (by decide) 0 _) (qt_ HSRX.out 0 _) (by decide) 1 _) (qt_ (qt_ HSRX.out 0 _) 1 _) (by decide) 2 _
  · have h1:1≤l.length:=by cases l with|nil=>exact absurd rfl h0|cons a l=>simp
    have hz1:(1:Int)≤(l.length:Int):=by omega
    have hz2:(1:Int)≤((encW l).size:Int):=by omega
    have hne:(encW l).toList.isEmpty=false:=by
      rw [encW_list]
      cases l with
      | nil=>exact absurd rfl h0
      | cons a l=>rfl
    have HLE:=Aside0.mk (show leftT d n l=leftS d n l (l.length - 1) from by unfold leftT;rw [if_neg h0])
    have X0:=Aside0.mk (show (encW l).extract 0 1=encW (l.take 1) by rw [extract_enc l 0 1 (Nat.zero_le _),List.drop_zero])
    have HT0:=Aside0.mk (show termsT (leftS d n l 0)=[⟨(encW l).extract 0 1,oneF⟩] from by
      show termsT (bracketT d n (l.take 1))=_
      rw [bracketT_one (by rw [List.length_take];omega),letter_terms hs (isD_take hl 1),X0.out])
    have HG0:=Aside0.mk (show (leftS d n l 0).bad=false from by
      show (bracketT d n (l.take 1)).bad=false
      rw [bracketT_one (by rw [List.length_take];omega)];rfl)
    obtain ⟨R,hR⟩:∃ R,R=outT (leftT d n l):=⟨_,rfl⟩
    rw [← hR]
    have HRR:=Aside0.mk hR
    clear hA hs hl h0 hR
    go_enter Try.func93,Try.ntmps93
    go_wp2
    generalize hW:World.alloc _ _=W0
    have S0:SrAt W0 w.heap.size d n (.slice A lx.length ca):=by rw [← hW];exact old_at (new_at rfl)
    have HS0:=Aside0.mk S0
    have HSR:=Aside0.mk (show SrAt W0 (w.heap.size+1) 0 0 (.slice none 0 0) from by rw [← hW];exact new_at (by simp))
    have HB0:=Aside0.mk (show Below w.heap.size w W0 from by rw [← hW];exact qb_ (qb_ (Below.refl _ _) _) _)
    have HA0:=Aside0.mk (HA.out.below HB0.out)
    have p0:=S0.c0
    have p1:=S0.c1
    have p2:=S0.c2
    clear S0 hW
    go_cut [6] (fun v6 wx=>∃ (b6:Nat) (A6:Option Addr) (c6:Nat),v6=.pointer (some ⟨b6,0,none⟩)∧Aside0 (SrAt wx b6 d n (.slice A6 (termsT (leftS d n l 0)).length c6))∧Aside0 (TermsR wx w.heap.size (.slice A6 (termsT (leftS d n l 0)).length c6) (termsT (leftS d n l 0)))∧Aside0 (w.heap.size+1 < b6)∧Aside0 (Below W0.heap.size W0 wx))
    case first =>
      go_region_held3 (fun w'=>w'.cell? ⟨w.heap.size,0,none⟩=some (.int .i64 (d:Int))∧w'.cell? ⟨w.heap.size,1,none⟩=some (.int .i64 (n:Int))∧w'.cell? ⟨w.heap.size,2,none⟩=some (.slice A lx.length ca)) (exact keep3 p0 p1 p2 (by (repeat' (first|(with_reducible exact Below.refl _ _)|(with_reducible exact HB7.out)|(with_reducible exact HB6.out)|(with_reducible refine Below.setCell ?_ ?_ _)|(with_reducible refine qc_ ?_)|(with_reducible refine qa_ ?_ _)|(with_reducible refine qb_ ?_ _)|(simp;done)|(simp;omega)|(have h6_:=HB6.out.size;simp;omega)|(have h7_:=HB7.out.size;simp;omega))))) (first
        | (go_at_call 162;refine (letterS _ d n (HA0.out.below (by repeat (first|(with_reducible exact Below.refl _ _)|(with_reducible refine qc_ ?_)|(with_reducible refine qa_ ?_ _)|(with_reducible refine qb_ ?_ _)))) _).mono ?_;rintro e w6 ⟨v,rfl,hv,hb⟩;rw [← HT0.out] at hv;obtain ⟨A6,c6,rfl⟩:=Kd.qf2_ hv;have HB6:=Aside0.mk (show Below W0.heap.size W0 w6 from qj_ (by repeat (first|(with_reducible exact Below.refl _ _)|(with_reducible refine qc_ ?_)|(with_reducible refine qa_ ?_ _)|(with_reducible refine qb_ ?_ _))) hb);have HV6:=Aside0.mk (show TermsR w6 w.heap.size (.slice A6 (termsT (leftS d n l 0)).length c6) (termsT (leftS d n l 0)) from Kd.qn2_ hv (Nat.le_trans HB0.out.size (qk_ (show Below W0.heap.size W0 _ from (by repeat (first|(with_reducible exact Below.refl _ _)|(with_reducible refine qc_ ?_)|(with_reducible refine qa_ ?_ _)|(with_reducible refine qb_ ?_ _)))))));first|(refine (fun (Z:w6.heap[W0.heap.size]?=some (.cells #[.int .i64 0,.int .i64 0,.slice none 0 0] 38 (0,0)))=>?_) (qm_ ?_ hb);rotate_left;(first|exact drew_at (new_at rfl)|exact new_at rfl);have HZZ:=Aside0.mk Z;have z0:=qg_ Z 0;have z1:=qg_ Z 1;have z2:=qg_ Z 2;have zf0:=qd_ Z 0;have zf1:=qd_ Z 1;have zf2:=qd_ Z 2;clear Z)|skip;clear hv hb))
      all_goals
        go_wp2_with fail
        go_meet
        case rel =>
          refine ⟨_,A6,c6,rfl,⟨?_⟩,⟨?_⟩,⟨?_⟩,⟨?_⟩⟩
          · (repeat' (first|((with_reducible refine SrAt.new ?_);simp;done)|(with_reducible refine SrAt.put3 ?_ _ _ _)|(with_reducible exact HZZ.out)|(with_reducible refine SrAt.alloc ?_ _)|(with_reducible refine SrAt.drew ?_)|(with_reducible refine drewN_at ?_)|(with_reducible refine drew_at ?_)|((with_reducible refine new_at ?_);simp;done)|(with_reducible refine old_at ?_)))
          · (repeat' (first|(with_reducible exact HV6.out)|(with_reducible exact Kd.qp1_ HV6.out _)|(with_reducible refine Kd.qp1_ ?_ _)|(with_reducible refine Kd.R_drew ?_)|exact Kd.R_set (Kd.R_set (Kd.R_set HV6.out HZZ.out (by decide) 0 _) (qt_ HZZ.out 0 _) (by decide) 1 _) (qt_ (qt_ HZZ.out 0 _) 1 _) (by decide) 2 _))
          · have h1_:=HSR.out.lt;have h2_:=HB6.out.size;omega
          · (repeat' (first|(with_reducible exact Below.refl _ _)|(with_reducible exact HB7.out)|(with_reducible exact HB6.out)|(with_reducible refine Below.setCell ?_ ?_ _)|(with_reducible refine qc_ ?_)|(with_reducible refine qa_ ?_ _)|(with_reducible refine qb_ ?_ _)|(simp;done)|(simp;omega)|(have h6_:=HB6.out.size;simp;omega)|(have h7_:=HB7.out.size;simp;omega)))
    case rest =>
      obtain ⟨b6,A6,c6,rfl,HS6,HV6,HLO,HM6⟩:=hcut
      clear p0 p1 p2
      go_wp2
      go_loopg [7] l.length (fun gg v7 wr=>∃ (m:Nat) (A6:Option Addr) (c6:Nat),m+1≤l.length∧l.length - m≤gg∧v7=.int .i64 ((m+1:Nat):Int)∧Aside0 ((leftS d n l m).bad=false)∧Aside0 (SrAt wr b6 d n (.slice A6 (termsT (leftS d n l m)).length c6))∧Aside0 (TermsR wr w.heap.size (.slice A6 (termsT (leftS d n l m)).length c6) (termsT (leftS d n l m)))∧Aside0 (SrAt wr w.heap.size d n (.slice A lx.length ca))∧Aside0 (SrAt wr (w.heap.size+1) 0 0 (.slice none 0 0))∧Aside0 (Below w.heap.size w wr))
      case atStart=>exact ⟨0,A6,c6,h1,by omega,rfl,HG0,HS6,HV6,⟨HS0.out.below HM6.out⟩,⟨HSR.out.below HM6.out⟩,⟨qj_ HB0.out HM6.out⟩⟩
      case round =>
        clear HS6 HV6 HM6 HS0 HSR HB0 HA0 HG0 HT0 X0
        obtain ⟨m,A6,c6,hm,hg,rfl,HGM,HS6,HV6,HSX,HSR,HB⟩:=hrel
        obtain ⟨j,hj⟩:∃ j,j=m+1:=⟨_,rfl⟩
        rw [← hj]
        rw [← hj] at hm
        have HJ:=Aside0.mk hj
        have HLK:=Aside0.mk (leftS_like HS.out l m)
        obtain ⟨T,hT⟩:∃ T,T=leftS d n l m:=⟨_,rfl⟩
        rw [← hT] at HGM HS6 HV6 HLK
        have HTT:=Aside0.mk hT
        clear hT
        by_cases hlt:j < l.length
        · have hjz:(j:Int) < (l.length:Int):=by omega
          have hjz1:(j:Int)+1≤(l.length:Int):=by omega
          have hjz2:(j:Int)≤(j:Int)+1:=by omega
          have hjz3:(0:Int)≤(j:Int)+1:=by omega
          have hjw:IntKind.i64.wrap ((j:Int)+1)=(j:Int)+1:=by rw [i64_w,w64 (by omega) (by omega)]
          have X1:=Aside0.mk (show (encW l).extract j (j+1)=encW ((l.drop j).take 1) by rw [extract_enc l j (j+1) (by omega),List.drop_take,Nat.add_sub_cancel_left])
          obtain ⟨U,hU⟩:∃ U,U=letterT d n ((l.drop j).take 1):=⟨_,rfl⟩
          have HUL:=Aside0.mk (show Like U (zeroT d n) from by rw [hU];exact letterT_like HS.out _)
          have HUB:=Aside0.mk (show U.bad=false from by rw [hU];rfl)
          have HUT:=Aside0.mk (show termsT U=[⟨(encW l).extract j (j+1),oneF⟩] from by rw [hU,letter_terms HS.out (isD_take (isD_drop HL.out j) 1),X1.out])
          have HN:=Aside0.mk (show leftS d n l (m+1)=commT T U from by rw [leftS_succ,← HTT.out,hU,← HJ.out,bracketT_one (by rw [List.length_take,List.length_drop];omega)])
          have HTC:=Aside0.mk (show TmsC wr A6 c6 (termsT T) from (TmsC.of HV6.out (by have:=terms_len HLK.out HS.out;omega)).1)
          have HXC:=Aside0.mk (HA.out.below HB.out)
          have p0:=HS6.out.c0
          have p1:=HS6.out.c1
          have p2:=HS6.out.c2
          have q0:=HSX.out.c0
          have q1:=HSX.out.c1
          have q2:=HSX.out.c2
          clear hj hU
          go_wp2
          go_cut [8,9] (fun v8 v9 wx=>∃ (b9:Nat) (D N:Int) (Ax:Option Addr) (cx:Nat) (l9:List S79) (ok:Bool),v8=.pointer (some ⟨b9,0,none⟩)∧v9=.bool ok∧Aside0 (SrAt wx b9 D N (.slice Ax l9.length cx))∧Aside0 (TermsR wx w.heap.size (.slice Ax l9.length cx) l9)∧Aside0 (OutV d n (outT (commT T U)) D N l9 ok)∧Aside0 (Below wr.heap.size wr wx))
          case first =>
            go_region_held3 (fun w'=>w'.cell? ⟨b6,0,none⟩=some (.int .i64 (d:Int))∧w'.cell? ⟨b6,1,none⟩=some (.int .i64 (n:Int))∧w'.cell? ⟨b6,2,none⟩=some (.slice A6 (termsT T).length c6)∧w'.cell? ⟨w.heap.size,0,none⟩=some (.int .i64 (d:Int))∧w'.cell? ⟨w.heap.size,1,none⟩=some (.int .i64 (n:Int))∧w'.cell? ⟨w.heap.size,2,none⟩=some (.slice A lx.length ca)) (exact keep6 p0 p1 p2 q0 q1 q2 (by (repeat' (first|(with_reducible exact Below.refl _ _)|(with_reducible exact HB7.out)|(with_reducible exact HB6.out)|(with_reducible refine Below.setCell ?_ ?_ _)|(with_reducible refine qc_ ?_)|(with_reducible refine qa_ ?_ _)|(with_reducible refine qb_ ?_ _)|(simp;done)|(simp;omega)|(have h6_:=HB6.out.size;simp;omega)|(have h7_:=HB7.out.size;simp;omega))))) (first
              | (go_at_call 162;refine (letterS _ d n (HXC.out.below (by repeat (first|(with_reducible exact Below.refl _ _)|(with_reducible refine qc_ ?_)|(with_reducible refine qa_ ?_ _)|(with_reducible refine qb_ ?_ _)))) _).mono ?_;rintro e w6 ⟨v,rfl,hv,hb⟩;rw [← HUT.out] at hv;obtain ⟨Au,cu,rfl⟩:=Kd.qf2_ hv;have HB6:=Aside0.mk (show Below wr.heap.size wr w6 from qj_ (by repeat (first|(with_reducible exact Below.refl _ _)|(with_reducible refine qc_ ?_)|(with_reducible refine qa_ ?_ _)|(with_reducible refine qb_ ?_ _))) hb);have HU6:=Aside0.mk (show TmsC w6 Au cu (termsT U) from (TmsC.of hv (by have:=terms_len HUL.out HS.out;omega)).1);first|(refine (fun (Z:w6.heap[wr.heap.size]?=some (.cells #[.int .i64 0,.int .i64 0,.slice none 0 0] 38 (0,0)))=>?_) (qm_ ?_ hb);rotate_left;(first|exact drew_at (new_at rfl)|exact new_at rfl);have HZZ:=Aside0.mk Z;have z0:=qg_ Z 0;have z1:=qg_ Z 1;have z2:=qg_ Z 2;have zf0:=qd_ Z 0;have zf1:=qd_ Z 1;have zf2:=qd_ Z 2;clear Z)|skip;clear hv hb)
              | (go_at_call 109;refine (commS _ d n HS.out HLK.out HUL.out HGM.out HUB.out (HTC.out.below (by repeat (first|(with_reducible exact Below.refl _ _)|(with_reducible exact HB6.out)|(with_reducible refine qc_ ?_)|(with_reducible refine qa_ ?_ _)|(with_reducible refine qb_ ?_ _)))) (HU6.out.below (by repeat (first|(with_reducible exact Below.refl _ _)|(with_reducible refine qc_ ?_)|(with_reducible refine qa_ ?_ _)|(with_reducible refine qb_ ?_ _))))).mono ?_;rintro e w7 h7;obtain ⟨D7,N7,A7,c7,l7,ok7,rfl,ho7,hv7,hb⟩:=h7.val;have HB7:=Aside0.mk (show Below wr.heap.size wr w7 from qj_ (by repeat (first|(with_reducible exact Below.refl _ _)|(with_reducible exact HB6.out)|(with_reducible refine qc_ ?_)|(with_reducible refine qa_ ?_ _)|(with_reducible refine qb_ ?_ _))) hb);have HO7:=Aside0.mk ho7;have HV7:=Aside0.mk (show TermsR w7 w.heap.size (.slice A7 l7.length c7) l7 from Kd.qn2_ hv7 (Nat.le_trans HB.out.size (qk_ (show Below wr.heap.size wr _ from (by repeat (first|(with_reducible exact Below.refl _ _)|(with_reducible exact HB6.out)|(with_reducible refine qc_ ?_)|(with_reducible refine qa_ ?_ _)|(with_reducible refine qb_ ?_ _)))))));first|(refine (fun (Z:w7.heap[wr.heap.size]?=some (.cells #[.int .i64 0,.int .i64 0,.slice none 0 0] 38 (0,0)))=>?_) (qm_ ?_ hb);rotate_left;(first|exact HZZ.out|exact drew_at HZZ.out);have HZZ:=Aside0.mk Z;have z0:=qg_ Z 0;have z1:=qg_ Z 1;have z2:=qg_ Z 2;have zf0:=qd_ Z 0;have zf1:=qd_ Z 1;have zf2:=qd_ Z 2;clear Z)|(refine (fun (Z:w7.heap[w6.heap.size]?=some (.cells #[.int .i64 0,.int .i64 0,.slice none 0 0] 38 (0,0)))=>?_) (qm_ ?_ hb);rotate_left;(first|exact drew_at (new_at rfl)|exact new_at rfl);have HZZ:=Aside0.mk Z;have z0:=qg_ Z 0;have z1:=qg_ Z 1;have z2:=qg_ Z 2;have zf0:=qd_ Z 0;have zf1:=qd_ Z 1;have zf2:=qd_ Z 2;clear Z)|skip;clear h7 ho7 hv7 hb))
            all_goals
              go_wp2_with fail
              go_meet
              case rel =>
                refine ⟨_,D7,N7,A7,c7,l7,ok7,rfl,rfl,⟨?_⟩,⟨?_⟩,HO7,⟨?_⟩⟩
                · (repeat' (first|((with_reducible refine SrAt.new ?_);simp;done)|(with_reducible refine SrAt.put3 ?_ _ _ _)|(with_reducible exact HZZ.out)|(with_reducible refine SrAt.alloc ?_ _)|(with_reducible refine SrAt.drew ?_)|(with_reducible refine drewN_at ?_)|(with_reducible refine drew_at ?_)|((with_reducible refine new_at ?_);simp;done)|(with_reducible refine old_at ?_)))
                · (repeat' (first|(with_reducible exact HV7.out)|(with_reducible exact Kd.qp1_ HV7.out _)|(with_reducible refine Kd.qp1_ ?_ _)|(with_reducible refine Kd.R_drew ?_)|exact Kd.R_set (Kd.R_set (Kd.R_set HV7.out HZZ.out (by decide) 0 _) (qt_ HZZ.out 0 _) (by decide) 1 _) (qt_ (qt_ HZZ.out 0 _) 1 _) (by decide) 2 _))
                · (repeat' (first|(with_reducible exact Below.refl _ _)|(with_reducible exact HB7.out)|(with_reducible exact HB6.out)|(with_reducible refine Below.setCell ?_ ?_ _)|(with_reducible refine qc_ ?_)|(with_reducible refine qa_ ?_ _)|(with_reducible refine qb_ ?_ _)|(simp;done)|(simp;omega)|(have h6_:=HB6.out.size;simp;omega)|(have h7_:=HB7.out.size;simp;omega)))
          case rest =>
            obtain ⟨b9,D,N,Ax,cx,l9,ok,rfl,rfl,HS9,HV9,HO9,HM9⟩:=hcut
            have HB9:=Aside0.mk (qj_ HB.out HM9.out)
            clear p0 p1 p2 q0 q1 q2
            by_cases hbad:(commT T U).bad=true
            · have ho:=HO9.out
              rw [outT_bad hbad] at ho
              obtain ⟨rfl,rfl,rfl,rfl⟩:=ho
              have HRN:=Aside0.mk (show R=none from by
                rw [HRR.out,HLE.out]
                refine outT_bad ?_
                have hb2:=leftS_bad (show (leftS d n l (m+1)).bad=true from by rw [HN.out];exact hbad) (l.length - 1 - (m+1))
                rwa [show m+1+(l.length - 1 - (m+1))=l.length - 1 from by have:=HJ.out;omega] at hb2)
              clear hbad
              have SR:=HSR.out.below HM9.out
              have x0:wc.cell? ⟨w.heap.size+1,0,none⟩=some (.int .i64 0):=SR.c0
              have f0:wc.frozen? ⟨w.heap.size+1,0,none⟩=false:=qd_ SR 0
              have x1:wc.cell? ⟨w.heap.size+1,1,none⟩=some (.int .i64 0):=SR.c1
              have f1:wc.frozen? ⟨w.heap.size+1,1,none⟩=false:=qd_ SR 1
              have x2:wc.cell? ⟨w.heap.size+1,2,none⟩=some (.slice none 0 0):=SR.c2
              have f2:wc.frozen? ⟨w.heap.size+1,2,none⟩=false:=qd_ SR 2
              have HSRX:=Aside0.mk SR
              clear SR
              go_wp2
              refine bodyPost_ret (results_ct rfl _ _ (w.heap.size+1) 38 _ (0,0) _ rfl (qt_ (qt_ (qt_ HSRX.out 0 _) 1 _) 2 _) hu2 rfl (by kernel_rfl)) rfl ?_
              rw [HRN.out]
              exact ⟨_,rfl,Kd.R_nil _ _ _ _ _,((HB9.out.setCell (Nat.le_add_right _ 1) _).setCell (Nat.le_add_right _ 1) _).setCell (Nat.le_add_right _ 1) _⟩
            · have hgood:(commT T U).bad=false:=by simpa using hbad
              have ho:=HO9.out
              rw [outT_good hgood] at ho
              obtain ⟨rfl,rfl,rfl,rfl⟩:=ho
              have HG9:=Aside0.mk (show (leftS d n l (m+1)).bad=false from by rw [HN.out];exact hgood)
              have y0:=HS9.out.c0
              have y1:=HS9.out.c1
              have y2:=HS9.out.c2
              have S6:=HS6.out.below HM9.out
              have k0:=S6.c0
              have k1:=S6.c1
              have k2:=S6.c2
              have kf0:=qd_ S6 0
              have kf1:=qd_ S6 1
              have kf2:=qd_ S6 2
              have HSK:=Aside0.mk S6
              have HSX9:=Aside0.mk (HSX.out.below HM9.out)
              have HSR9:=Aside0.mk (HSR.out.below HM9.out)
              clear S6 hbad hgood
              go_wp2
              go_roundg (l.length - (m+1))
              case measure=>have:=HJ.out;omega
              case rel =>
                have hj:=HJ.out
                have hlo:=HLO.out
                refine ⟨m+1,Ax,cx,by omega,by omega,by rw [← hj];first|rfl|(rw [w64 (by omega) (by omega)];rfl),HG9,⟨?_⟩,⟨?_⟩,⟨?_⟩,⟨?_⟩,⟨?_⟩⟩
                · rw [HN.out];exact qt_ (qt_ (qt_ HSK.out 0 _) 1 _) 2 _
                · rw [HN.out];exact Kd.R_set (Kd.R_set (Kd.R_set HV9.out HSK.out (by decide) 0 _) (qt_ HSK.out 0 _) (by decide) 1 _) (qt_ (qt_ HSK.out 0 _) 1 _) (by decide) 2 _
                · exact ((HSX9.out.far (by simp;omega) _).far (by simp;omega) _).far (by simp;omega) _
                · exact ((HSR9.out.far (by simp;omega) _).far (by simp;omega) _).far (by simp;omega) _
                · exact ((HB9.out.setCell (by simp;omega) _).setCell (by simp;omega) _).setCell (by simp;omega) _
        · have hjz:¬ (j:Int) < (l.length:Int):=by omega
          have HRS:=Aside0.mk (show R=some (termsT T) from by
            rw [HRR.out,HLE.out,show l.length - 1=m from by omega,← HTT.out,outT_good HGM.out])
          have y0:=HS6.out.c0
          have y1:=HS6.out.c1
          have y2:=HS6.out.c2
          have SR:=HSR.out
          have x0:wr.cell? ⟨w.heap.size+1,0,none⟩=some (.int .i64 0):=SR.c0
          have f0:wr.frozen? ⟨w.heap.size+1,0,none⟩=false:=qd_ SR 0
          have x1:wr.cell? ⟨w.heap.size+1,1,none⟩=some (.int .i64 0):=SR.c1
          have f1:wr.frozen? ⟨w.heap.size+1,1,none⟩=false:=qd_ SR 1
          have x2:wr.cell? ⟨w.heap.size+1,2,none⟩=some (.slice none 0 0):=SR.c2
          have f2:wr.frozen? ⟨w.heap.size+1,2,none⟩=false:=qd_ SR 2
          have HSRX:=Aside0.mk SR
          clear SR
          go_wp2
          refine bodyPost_ret (results_ct rfl _ _ (w.heap.size+1) 38 _ (0,0) _ rfl (qt_ (qt_ (qt_ HSRX.out 0 _) 1 _) 2 _) hu2 rfl (by kernel_rfl)) rfl ?_
          rw [HRS.out]
          refine ⟨_,rfl,?_,((HB.out.setCell (Nat.le_add_right _ 1) _).setCell (Nat.le_add_right _ 1) _).setCell (Nat.le_add_right _ 1) _⟩
          exact Kd.R_set (Kd.R_set (Kd.R_set HV6.out HSRX.out (by decide) 0 _) (qt_ HSRX.out 0 _) (by decide) 1 _) (qt_ (qt_ HSRX.out 0 _) 1 _) (by decide) 2 _
end Go.Proofs.Ytaiefdhenikiiaa.Base
namespace Go.Proofs.Ytaiefdhenikiiaa.Base
open Go.RowKit Go.Proofs.YtaiefdhenikiiaaW.PrintWords Go.Proofs.YtaiefdhenikiiaaW.PrintLast Go.Proofs.YtaiefdhenikiiaaW.PrintMore
set_option linter.unusedVariables false
set_option linter.unusedSimpArgs false
theorem dyR_box3 {W:World} {b base:Nat} {v:Value} {l:List S79} (h:TermsR W base v l) {cs:Array Value} (hz:W.heap[b]?=some (.cells cs 38 (0,0))) (x0 x1 x2:Value):TermsR (((W.setCell ⟨b,0,none⟩ x0).setCell ⟨b,1,none⟩ x1).setCell ⟨b,2,none⟩ x2) base v l :=
 Kd.R_set (Kd.R_set (Kd.R_set h hz (by decide) 0 _) (qt_ hz 0 _) (by decide) 1 _) (qt_ (qt_ hz 0 _) 1 _) (by decide) 2 _
theorem dySr_box3 {W:World} {b:Nat} {D N D2 N2:Int} {v v2:Value} (hz:SrAt W b D N v):SrAt (((W.setCell ⟨b,0,none⟩ (.int .i64 D2)).setCell ⟨b,1,none⟩ (.int .i64 N2)).setCell ⟨b,2,none⟩ v2) b D2 N2 v2:=qt_ (qt_ (qt_ hz 0 _) 1 _) 2 _
theorem dySr_far3 {W:World} {b c:Nat} {D N:Int} {v:Value} (hz:SrAt W b D N v) (hne:b ≠ c) (x0 x1 x2:Value):SrAt (((W.setCell ⟨c,0,none⟩ x0).setCell ⟨c,1,none⟩ x1).setCell ⟨c,2,none⟩ x2) b D N v:=qk1_ (qk1_ (qk1_ hz hne _) hne _) hne _
theorem dyB_box3 {w W:World} {B b:Nat} (h:Below B w W) (hb:B≤b) (x0 x1 x2:Value):Below B w (((W.setCell ⟨b,0,none⟩ x0).setCell ⟨b,1,none⟩ x1).setCell ⟨b,2,none⟩ x2):=((h.setCell hb _).setCell hb _).setCell hb _
theorem dyFr_put {W:World} {b:Nat} (h:W.heap[b]?=some (.cells #[.int .i64 0,.int .i64 0] 77 (0,0))) (a:S77):FrAt ((W.setCell ⟨b,0,none⟩ (.int .i64 a.f0)).setCell ⟨b,1,none⟩ (.int .i64 a.f1)) b a:=qt_ (qt_ h 0 _) 1 _
theorem dyKeep3 {w W:World} {a1 a2 a3:Addr} {v1 v2 v3:Value} (p1:w.cell? a1=some v1) (p2:w.cell? a2=some v2) (p3:w.cell? a3=some v3) (hb:Below w.heap.size w W):W.cell? a1=some v1∧W.cell? a2=some v2∧W.cell? a3=some v3:=⟨qq_ hb p1,qq_ hb p2,qq_ hb p3⟩
def qy2_.f (a0_0:Int) (a0_1:Int) (l0_2:List S79):Option (Int × Int × (List S79) × Int):=if l0_2.length≤1048576∧(∀ x ∈ l0_2,x.f0.size≤1048576) then some (dynR a0_0 a0_1 l0_2) else none
set_option maxHeartbeats 16000000 in
set_option maxRecDepth 100000 in
theorem qy2_.calls (a0_0:Int) (a0_1:Int) (A0_2:Option Addr) (c0_2:Nat) (l0_2:List (S79)) (r1:Int) (r2:Int) (r3:List (S79)) (r4:Int) (w:World) (hr0_2:Kd.C k79 w A0_2 l0_2.length l0_2) (hc0_2:l0_2.length≤c0_2) (h:qy2_.f a0_0 a0_1 l0_2=some (r1,r2,r3,r4)) :
  Calls Try.prog 61 #[.agg #[.int .i64 a0_0,.int .i64 a0_1,.slice A0_2 l0_2.length c0_2]] w fun e w'=>∃ v2_:Value,e=.returned (.tuple #[.agg #[.int .i64 r1,.int .i64 r2,v2_],.int .i64 r4])∧Kd.R k79 79 w' w.heap.size (fun _=>True) v2_ r3∧Below w.heap.size w w':=by
 unfold qy2_.f at h
 split at h
 rotate_left
 ·cases h
 rename_i hsm
 replace h:=Option.some.inj h
 have hu:=Try.underlying38
 have hu2:=Try.underlying79
 have hu3:=Try.underlying77
 have HR:=aK hr0_2
 have HC:=aK hc0_2
 clear hr0_2 hc0_2
 obtain ⟨k1,h1⟩:=(ser_spec a0_0 a0_1 l0_2 hsm).rounds
 unfold dynR at h
 by_cases c:serB a0_0 a0_1 l0_2=true
 rotate_left
 ·have cf:serB a0_0 a0_1 l0_2=false:=by simpa using c
  rw [cf] at h1
  have HIS:=aK h1
  rw [if_neg c] at h
  simp only [Prod.mk.injEq] at h
  obtain ⟨rfl,rfl,rfl,rfl⟩:=h
  clear h1 c cf hsm
  go_enter Try.func61,Try.ntmps61
  have x0:((w.alloc (.cells #[.int .i64 a0_0,.int .i64 a0_1,.slice A0_2 l0_2.length c0_2] 38)).alloc (.cells #[.int .i64 0,.int .i64 0,.slice none 0 0] 38)).cell? ⟨w.heap.size,0,none⟩=some (.int .i64 a0_0):=qg_ (old_at (new_at rfl)) 0
  have x1:((w.alloc (.cells #[.int .i64 a0_0,.int .i64 a0_1,.slice A0_2 l0_2.length c0_2] 38)).alloc (.cells #[.int .i64 0,.int .i64 0,.slice none 0 0] 38)).cell? ⟨w.heap.size,1,none⟩=some (.int .i64 a0_1):=qg_ (old_at (new_at rfl)) 1
  have x2:((w.alloc (.cells #[.int .i64 a0_0,.int .i64 a0_1,.slice A0_2 l0_2.length c0_2] 38)).alloc (.cells #[.int .i64 0,.int .i64 0,.slice none 0 0] 38)).cell? ⟨w.heap.size,2,none⟩=some (.slice A0_2 l0_2.length c0_2):=qg_ (old_at (new_at rfl)) 2
  go_wp2_with (go_at_call 82;(with_reducible refine (qw_.calls k1 _ _ _ _ _ _ _ (Kd.qv1_ HR.out (qb_ (qb_ (Below.refl _ _) _) _)) HC.out HIS.out).mono ?_);rintro e w1 ⟨rfl,hb⟩;have HB1:=aK (show Below w.heap.size w w1 from qj_ (qb_ (qb_ (Below.refl _ _) _) _) hb);have HX1:=aK (show SrAt w1 w.heap.size a0_0 a0_1 (.slice A0_2 l0_2.length c0_2) from qm_ (old_at (new_at rfl)) hb);have HR1:=aK (show SrAt w1 (w.heap.size+1) 0 0 (.slice none 0 0) from qm_ (new_at (by simp)) hb);clear x0 x1 x2;have s0:w1.cell? ⟨w.heap.size+1,0,none⟩=some (.int .i64 0):=qg_ HR1.out 0;have sf0:w1.frozen? ⟨w.heap.size+1,0,none⟩=false:=qd_ HR1.out 0;have s1:w1.cell? ⟨w.heap.size+1,1,none⟩=some (.int .i64 0):=qg_ HR1.out 1;have sf1:w1.frozen? ⟨w.heap.size+1,1,none⟩=false:=qd_ HR1.out 1;have s2:w1.cell? ⟨w.heap.size+1,2,none⟩=some (.slice none 0 0):=qg_ HR1.out 2;have sf2:w1.frozen? ⟨w.heap.size+1,2,none⟩=false:=qd_ HR1.out 2;clear hb)
  refine bodyPost_ret (results_ct rfl _ _ (w.heap.size+1) 38 _ (0,0) _ rfl (qt_ (qt_ (qt_ HR1.out 0 _) 1 _) 2 _) hu rfl (by kernel_rfl)) rfl ?_
  exact ⟨_,rfl,Kd.R_nil _ _ _ _ _,dyB_box3 HB1.out (Nat.le_add_right _ 1) _ _ _⟩
 ·rw [c] at h1
  have HIS:=aK h1
  rw [if_pos c] at h
  obtain ⟨d,n,rfl,rfl,hs,hgd⟩:=serB_nat c
  rw [Int.toNat_natCast,Int.toNat_natCast] at h
  have hdl:=dynT_like hs l0_2
  have HBad:=aK (show ∀ i,(dynT d n (l0_2.take i)).bad=true→r1=0∧r2=0∧r3=[]∧r4=3 from fun i hb=>by
   unfold serR at h
   rw [if_pos (dynT_bad hb)] at h
   simp only [Prod.mk.injEq] at h
   exact ⟨h.1.symm,h.2.1.symm,h.2.2.1.symm,h.2.2.2.symm⟩)
  have HEnd:=aK (show (dynT d n l0_2).bad=false→r1=(d:Int)∧r2=(n:Int)∧r3=termsT (dynT d n l0_2)∧r4=0 from fun hb=>by
   unfold serR at h
   rw [if_neg (by rw [hb];simp)] at h
   simp only [Prod.mk.injEq] at h
   refine ⟨?_,?_,h.2.2.1.symm,h.2.2.2.symm⟩
   ·rw [← h.1,hdl.1];rfl
   ·rw [← h.2.1,hdl.2.1];rfl)
  have HS:=aK hs
  have HOK:=aK (good_okTs (by have:=hs.d3;omega) hgd)
  have HLL:=aK hsm.1
  have HTA:=aK (show TmsC w A0_2 c0_2 l0_2 from ⟨HR.out,HC.out,by have:=hsm.1;omega⟩)
  clear h h1 c hs hgd hsm hdl
  go_enter Try.func61,Try.ntmps61
  have x0:((w.alloc (.cells #[.int .i64 (d:Int),.int .i64 (n:Int),.slice A0_2 l0_2.length c0_2] 38)).alloc (.cells #[.int .i64 0,.int .i64 0,.slice none 0 0] 38)).cell? ⟨w.heap.size,0,none⟩=some (.int .i64 (d:Int)):=qg_ (old_at (new_at rfl)) 0
  have x1:((w.alloc (.cells #[.int .i64 (d:Int),.int .i64 (n:Int),.slice A0_2 l0_2.length c0_2] 38)).alloc (.cells #[.int .i64 0,.int .i64 0,.slice none 0 0] 38)).cell? ⟨w.heap.size,1,none⟩=some (.int .i64 (n:Int)):=qg_ (old_at (new_at rfl)) 1
  have x2:((w.alloc (.cells #[.int .i64 (d:Int),.int .i64 (n:Int),.slice A0_2 l0_2.length c0_2] 38)).alloc (.cells #[.int .i64 0,.int .i64 0,.slice none 0 0] 38)).cell? ⟨w.heap.size,2,none⟩=some (.slice A0_2 l0_2.length c0_2):=qg_ (old_at (new_at rfl)) 2
  go_wp2_with (first
   | (go_at_call 82;(with_reducible refine (qw_.calls k1 _ _ _ _ _ _ _ (Kd.qv1_ HR.out (qb_ (qb_ (Below.refl _ _) _) _)) HC.out HIS.out).mono ?_);rintro e w1 ⟨rfl,hb⟩;have HB1:=aK (show Below w.heap.size w w1 from qj_ (qb_ (qb_ (Below.refl _ _) _) _) hb);have HX1:=aK (show SrAt w1 w.heap.size (d:Int) (n:Int) (.slice A0_2 l0_2.length c0_2) from qm_ (old_at (new_at rfl)) hb);have HR1:=aK (show SrAt w1 (w.heap.size+1) 0 0 (.slice none 0 0) from qm_ (new_at (by simp)) hb);clear x0 x1 x2;have x0:w1.cell? ⟨w.heap.size,0,none⟩=some (.int .i64 (d:Int)):=qg_ HX1.out 0;have x1:w1.cell? ⟨w.heap.size,1,none⟩=some (.int .i64 (n:Int)):=qg_ HX1.out 1;have x2:w1.cell? ⟨w.heap.size,2,none⟩=some (.slice A0_2 l0_2.length c0_2):=qg_ HX1.out 2;clear hb)
   | (go_at_call 108;(with_reducible refine (emptyS _ d n (HTA.out.below HB1.out)).mono ?_);rintro e w2 ⟨v,rfl,hv,hb⟩;obtain ⟨A1,c1,rfl⟩:=Kd.qf2_ hv;have HB2:=aK (show Below w.heap.size w w2 from qj_ HB1.out hb);have HX2:=aK (HX1.out.below hb);have HR2:=aK (HR1.out.below hb);have HV1:=aK (show TermsR w2 w.heap.size (.slice A1 ([]:List S79).length c1) [] from Kd.qn2_ hv HB1.out.size);clear x0 x1 x2 hv hb))
  generalize hW:World.alloc w2 _=W1
  have HS6:=aK (show SrAt W1 w2.heap.size d n (.slice A1 (termsT (dynT d n (l0_2.take 0))).length c1) from by rw [← hW,List.take_zero,show dynT d n []=zeroT d n from rfl,zero_terms];exact new_at rfl)
  have HV6:=aK (show TermsR W1 w.heap.size (.slice A1 (termsT (dynT d n (l0_2.take 0))).length c1) (termsT (dynT d n (l0_2.take 0))) from by rw [← hW,List.take_zero,show dynT d n []=zeroT d n from rfl,zero_terms];exact Kd.qp1_ HV1.out _)
  have HX3:=aK (show SrAt W1 w.heap.size d n (.slice A0_2 l0_2.length c0_2) from by rw [← hW];exact HX2.out.alloc _)
  have HR3:=aK (show SrAt W1 (w.heap.size+1) 0 0 (.slice none 0 0) from by rw [← hW];exact HR2.out.alloc _)
  have HB3:=aK (show Below w.heap.size w W1 from by rw [← hW];exact qb_ HB2.out _)
  have HLO:=aK (show w.heap.size+1 < w2.heap.size from HR2.out.lt)
  have HG0:=aK (show (dynT d n (l0_2.take 0)).bad=false from by rw [List.take_zero];rfl)
  obtain ⟨b4,hb4⟩:∃ b,b=w2.heap.size:=⟨_,rfl⟩
  rw [← hb4] at HS6 HLO ⊢
  clear hW HV1 HX1 HX2 HR1 HR2 HB1 HB2 hb4
  go_loopg [5] l0_2.length (fun gg v5 wr=>∃ (i:Nat) (A6:Option Addr) (c6:Nat),i≤l0_2.length∧l0_2.length - i≤gg∧v5=.int .i64 i∧Aside0 ((dynT d n (l0_2.take i)).bad=false)∧Aside0 (SrAt wr b4 d n (.slice A6 (termsT (dynT d n (l0_2.take i))).length c6))∧Aside0 (TermsR wr w.heap.size (.slice A6 (termsT (dynT d n (l0_2.take i))).length c6) (termsT (dynT d n (l0_2.take i))))∧Aside0 (SrAt wr w.heap.size d n (.slice A0_2 l0_2.length c0_2))∧Aside0 (SrAt wr (w.heap.size+1) 0 0 (.slice none 0 0))∧Aside0 (Below w.heap.size w wr))
  case atStart=>exact ⟨0,A1,c1,Nat.zero_le _,by omega,rfl,HG0,HS6,HV6,HX3,HR3,HB3⟩
  case round =>
   clear HS6 HV6 HX3 HR3 HB3 HG0
   obtain ⟨i,A6,c6,hi,hg,rfl,HG,HS6,HV6,HX,HRB,HB⟩:=hrel
   by_cases hlt:i < l0_2.length
   ·have hltz:(i:Int) < (l0_2.length:Int):=by omega
    obtain ⟨ad,rfl,t0,t1,t2⟩:=at_T79 (Kd.qv1_ HR.out HB.out) (i:Int) (by omega) (by omega)
    have e1:rd_T79 l0_2 (i:Int)=l0_2[i]:=by simp [rd_T79,List.getD_eq_getElem?_getD,List.getElem?_eq_getElem hlt]
    obtain ⟨x,hx⟩:∃ x,x=l0_2[i]:=⟨_,rfl⟩
    rw [e1,← hx,Int.toNat_natCast] at t0 t1 t2
    obtain ⟨hw,hf⟩:=HOK.out.1 l0_2[i] (List.getElem_mem hlt)
    have hnz:=HOK.out.2 l0_2[i] (List.getElem_mem hlt)
    rw [← hx] at hw hf hnz
    have HD:=aK (dyn_succ (d:=d) (n:=n) hlt)
    rw [← hx] at HD
    have hsz:x.f0.size=(decW x.f0).length:=by conv=>lhs;rw [← hw.1,encW_size]
    obtain ⟨O,hO⟩:∃ O,O=dynT d n (l0_2.take i):=⟨_,rfl⟩
    have HOL:=aK (show Like O (zeroT d n) from by rw [hO];exact dynT_like HS.out _)
    rw [← hO] at HD HG HS6 HV6
    have x0:wr.cell? ⟨w.heap.size,0,none⟩=some (.int .i64 (d:Int)):=qg_ HX.out 0
    have x1:wr.cell? ⟨w.heap.size,1,none⟩=some (.int .i64 (n:Int)):=qg_ HX.out 1
    have x2:wr.cell? ⟨w.heap.size,2,none⟩=some (.slice (some ad) l0_2.length c0_2):=qg_ HX.out 2
    by_cases c0:(decW x.f0).length=0
    ·have he:x.f0.toList.isEmpty=true:=by
      rw [← hw.1,List.length_eq_zero_iff.1 c0,encW_list];rfl
     have HN:=aK (show dynT d n (l0_2.take (i+1))=O from by rw [HD.out];unfold dynStep;rw [if_pos c0])
     clear hw hf hnz hsz hx e1 hO c0
     go_wp2
     go_roundg (l0_2.length - (i+1))
     case measure=>omega
     case rel=>exact ⟨i+1,A6,c6,by omega,by omega,by have:=HLL.out;first|rfl|(rw [w64 (by omega) (by omega)];rfl),⟨by rw [HN.out];exact HG.out⟩,⟨by rw [HN.out];exact HS6.out⟩,⟨by rw [HN.out];exact HV6.out⟩,HX,HRB,HB⟩
    ·have he:x.f0.toList.isEmpty=false:=by
      rw [← hw.1,encW_list]
      cases hh:decW x.f0 with
      | nil=>rw [hh] at c0;exact absurd rfl c0
      | cons y z=>rfl
     have h8:(decW x.f0).length≤8:=by have:=hw.2.1;have:=HS.out.n8;omega
     have hlf:okF (lenF (decW x.f0).length):=lenF_ok (by omega) (by omega)
     obtain ⟨q,hq⟩:∃ q,q=dynA x:=⟨_,rfl⟩
     obtain ⟨y,hy⟩:∃ y,y=tellF q:=⟨_,rfl⟩
     obtain ⟨ko,hko⟩:=(over_is hf (m:=(decW x.f0).length) (by omega) (by omega)).rounds
     have HOV:=aK (show qv2_.f ko x.f1.f0 x.f1.f1 (x.f0.size:Int) 1=some (y.f0,y.f1,q.2) from by
      rw [hsz,hko,hy,hq]
      unfold toldM tellF dynA
      cases (timesM x.f1 (lenF (decW x.f0).length)).2 with
      | true=>rfl
      | false=>rfl)
     obtain ⟨L,hL⟩:∃ L,L=leftT d n (decW x.f0):=⟨_,rfl⟩
     have HN:=aK (show dynT d n (l0_2.take (i+1))=sumT (O.chk q.2) (scaleT L (chkF q.1 q.2)) from by rw [HD.out];unfold dynStep;rw [if_neg c0,← hq,← hL])
     have HLL2:=aK (show Like L (zeroT d n) from by rw [hL];exact leftT_like HS.out _)
     have HLE:=aK (show ∀ W,Below wr.heap.size wr W→Calls Try.prog 93 #[.agg #[.int .i64 (d:Int),.int .i64 (n:Int),.slice (some ad) l0_2.length c0_2],.string x.f0] W (OutR W d n (outT L)) from fun W hW=>by
      have:=leftSp W d n HS.out (decW x.f0) hw.2 (A:=some ad) (ca:=c0_2) (lx:=l0_2) (HTA.out.below (qj_ HB.out hW))
      rwa [hw.1,← hL] at this)
     have HAQ:=aK (show q.2=true→okF q.1∧q.1.f0 ≠ 0 from fun hh=>by
      rw [hq] at hh ⊢
      exact ⟨times_okF hh,times_ne hf hlf hnz (by show (1:Int) ≠ 0;decide)⟩)
     have HY:=aK hy
     have HT1:=aK t1
     have HT2:=aK t2
     clear hw hf hnz hsz hx e1 hO c0 h8 hlf hq hko hy hL t1 t2
     go_wp2_with (go_at_call 93;refine (HLE.out _ (Below.refl _ _)).mono ?_;rintro e w4 h4;obtain ⟨D7,N7,A7,c7,l7,ok7,rfl,ho7,hv7,hb⟩:=h4.val;have HB4:=aK (show Below wr.heap.size wr w4 from hb);have HO7:=aK ho7;have HV7:=aK (show TermsR w4 w.heap.size (.slice A7 l7.length c7) l7 from Kd.qn2_ hv7 HB.out.size);clear h4 ho7 hv7 hb x0 x1 x2)
     generalize hW4:World.alloc w4 _=W4
     have HM4:=aK (show Below wr.heap.size wr W4 from by rw [← hW4];exact qb_ HB4.out _)
     have HS7:=aK (show SrAt W4 w4.heap.size D7 N7 (.slice A7 l7.length c7) from by rw [← hW4];exact new_at rfl)
     have HV74:=aK (show TermsR W4 w.heap.size (.slice A7 l7.length c7) l7 from by rw [← hW4];exact Kd.qp1_ HV7.out _)
     have HX4:=aK (HX.out.below HM4.out)
     have HBW4:=aK (qj_ HB.out HM4.out)
     obtain ⟨b7,hb7⟩:∃ b,b=w4.heap.size:=⟨_,rfl⟩
     rw [← hb7] at HS7 ⊢
     have x2:W4.cell? ⟨w.heap.size,2,none⟩=some (.slice (some ad) l0_2.length c0_2):=qg_ HX4.out 2
     have t1:=qq_ HM4.out HT1.out
     have t2:=qq_ HM4.out HT2.out
     clear hW4 hb7 HB4 HV7 t0
     go_cut [9,10] (fun v9 v10 wx=>∃ (b9:Nat) (ok9:Bool),v9=.pointer (some ⟨b9,0,none⟩)∧v10=.bool ok9∧Aside0 (ok9=q.2)∧Aside0 (FrAt wx b9 y)∧Aside0 (Below W4.heap.size W4 wx))
     case first =>
      go_region_held3 (fun w'=>w'.cell? ⟨w.heap.size,2,none⟩=some (.slice (some ad) l0_2.length c0_2)∧w'.cell? ⟨(ad.add (i * 3)).block,(ad.add (i * 3)).off+1,none⟩=some (.int .i64 x.f1.f0)∧w'.cell? ⟨(ad.add (i * 3)).block,(ad.add (i * 3)).off+2,none⟩=some (.int .i64 x.f1.f1)) (exact dyKeep3 x2 t1 t2 (by (repeat' (first|(with_reducible exact Below.refl _ _)|(with_reducible exact HB7.out)|(with_reducible exact HB6.out)|(with_reducible refine Below.setCell ?_ ?_ _)|(with_reducible refine qc_ ?_)|(with_reducible refine qa_ ?_ _)|(with_reducible refine qb_ ?_ _)|(simp;done)|(simp;omega)|(have q_:=HB7.out.size;simp;omega)|(have q_:=HB6.out.size;simp;omega))))) (first
       | (go_at_call 124;refine (oneS _ (x.f0.size:Int)).mono ?_;rintro e w6 ⟨rfl,hb⟩;have HX6:=aK hb;have HB6:=aK (show Below W4.heap.size W4 w6 from qj_ (by repeat (first|(with_reducible exact Below.refl _ _)|(with_reducible refine qc_ ?_)|(with_reducible refine qa_ ?_ _)|(with_reducible refine qb_ ?_ _))) hb);(first|(refine (fun (Zu:w6.heap[W4.heap.size]?=some (.cells #[.int .i64 0,.int .i64 0] 77 (0,0)))=>?_) (qm_ ?_ hb);rotate_left;(first|exact drew_at (new_at rfl)|exact new_at rfl);have HZu:=aK Zu;have c0Zu:=qg_ Zu 0;have c1Zu:=qg_ Zu 1;have f0Zu:=qd_ Zu 0;have f1Zu:=qd_ Zu 1;clear Zu)|skip);clear hb)
       | (go_at_call 123;refine (qv2_.calls ko _ _ _ _ _ _ _ _ HOV.out).mono ?_;rintro e w7 ⟨rfl,hb⟩;have HB7:=aK (show Below W4.heap.size W4 w7 from qj_ (by repeat (first|(with_reducible exact Below.refl _ _)|(with_reducible exact HB6.out)|(with_reducible refine qc_ ?_)|(with_reducible refine qa_ ?_ _)|(with_reducible refine qb_ ?_ _))) hb);(first|(refine (fun (Zv:w7.heap[W4.heap.size]?=some (.cells #[.int .i64 0,.int .i64 0] 77 (0,0)))=>?_) (qm_ ?_ hb);rotate_left;(first|exact HZu.out|exact drew_at HZu.out);have HZv:=aK Zv;have c0Zv:=qg_ Zv 0;have c1Zv:=qg_ Zv 1;have f0Zv:=qd_ Zv 0;have f1Zv:=qd_ Zv 1;clear Zv)|skip);(first|(refine (fun (Zx:w7.heap[w6.heap.size]?=some (.cells #[.int .i64 0,.int .i64 0] 77 (0,0)))=>?_) (qm_ ?_ hb);rotate_left;(first|exact drew_at (new_at rfl)|exact new_at rfl);have HZx:=aK Zx;have c0Zx:=qg_ Zx 0;have c1Zx:=qg_ Zx 1;have f0Zx:=qd_ Zx 0;have f1Zx:=qd_ Zx 1;clear Zx)|skip);clear hb))
      all_goals
       go_wp2_with fail
       go_meet
       case rel =>
        refine ⟨_,q.2,rfl,rfl,⟨rfl⟩,⟨?_⟩,⟨?_⟩⟩
        ·(repeat' (first|((with_reducible refine FrAt.new' ?_ _);simp;done)|(with_reducible refine FrAt.put4 ?_ _)|(with_reducible refine dyFr_put ?_ _)|(with_reducible refine FrAt.alloc ?_ _)|(with_reducible refine FrAt.drew ?_)|(with_reducible exact HZv.out)|(with_reducible exact HZx.out)|((with_reducible refine new_at ?_);simp;done)|(with_reducible refine old_at ?_)|(with_reducible refine drew_at ?_)))
        ·(repeat' (first|(with_reducible exact Below.refl _ _)|(with_reducible exact HB7.out)|(with_reducible exact HB6.out)|(with_reducible refine Below.setCell ?_ ?_ _)|(with_reducible refine qc_ ?_)|(with_reducible refine qa_ ?_ _)|(with_reducible refine qb_ ?_ _)|(simp;done)|(simp;omega)|(have q_:=HB7.out.size;simp;omega)|(have q_:=HB6.out.size;simp;omega)))
     case rest =>
      obtain ⟨b9,ok9,rfl,rfl,HOK9,HF9,HM9⟩:=hcut
      clear x2 t1 t2
      have HMC:=aK (show Below wr.heap.size wr wc from qj_ HM4.out HM9.out)
      have HBC:=aK (show Below w.heap.size w wc from qj_ HB.out HMC.out)
      have HRC:=aK (HRB.out.below HMC.out)
      have HXC:=aK (HX.out.below HMC.out)
      have HSC:=aK (HS6.out.below HMC.out)
      have HS7C:=aK (HS7.out.below HM9.out)
      have HV7C:=aK (Kd.qm2_ HV74.out HM9.out)
      by_cases clb:L.bad=true
      ·have ho:=HO7.out
       rw [outT_bad clb] at ho
       obtain ⟨rfl,rfl,rfl,rfl⟩:=ho
       obtain ⟨rfl,rfl,rfl,rfl⟩:=HBad.out (i+1) (by rw [HN.out];exact sumT_bad (Or.inr (scaleT_bad _ clb)))
       clear clb
       have s0:wc.cell? ⟨w.heap.size+1,0,none⟩=some (.int .i64 0):=qg_ HRC.out 0
       have sf0:wc.frozen? ⟨w.heap.size+1,0,none⟩=false:=qd_ HRC.out 0
       have s1:wc.cell? ⟨w.heap.size+1,1,none⟩=some (.int .i64 0):=qg_ HRC.out 1
       have sf1:wc.frozen? ⟨w.heap.size+1,1,none⟩=false:=qd_ HRC.out 1
       have s2:wc.cell? ⟨w.heap.size+1,2,none⟩=some (.slice none 0 0):=qg_ HRC.out 2
       have sf2:wc.frozen? ⟨w.heap.size+1,2,none⟩=false:=qd_ HRC.out 2
       go_wp2
       refine bodyPost_ret (results_ct rfl _ _ (w.heap.size+1) 38 _ (0,0) _ rfl (qt_ (qt_ (qt_ HRC.out 0 _) 1 _) 2 _) hu rfl (by kernel_rfl)) rfl ?_
       exact ⟨_,rfl,Kd.R_nil _ _ _ _ _,dyB_box3 HBC.out (Nat.le_add_right _ 1) _ _ _⟩
      ·have clg:L.bad=false:=by simpa using clb
       have ho:=HO7.out
       rw [outT_good clg] at ho
       obtain ⟨rfl,rfl,rfl,rfl⟩:=ho
       by_cases cq:q.2=true
       rotate_left
       ·have cqf:q.2=false:=by simpa using cq
        obtain rfl:ok9=false:=HOK9.out.trans cqf
        obtain ⟨rfl,rfl,rfl,rfl⟩:=HBad.out (i+1) (by rw [HN.out];exact sumT_bad (Or.inl (by show (O.bad || !q.2)=true;rw [cqf];simp)))
        clear clb clg cq cqf
        have s0:wc.cell? ⟨w.heap.size+1,0,none⟩=some (.int .i64 0):=qg_ HRC.out 0
        have sf0:wc.frozen? ⟨w.heap.size+1,0,none⟩=false:=qd_ HRC.out 0
        have s1:wc.cell? ⟨w.heap.size+1,1,none⟩=some (.int .i64 0):=qg_ HRC.out 1
        have sf1:wc.frozen? ⟨w.heap.size+1,1,none⟩=false:=qd_ HRC.out 1
        have s2:wc.cell? ⟨w.heap.size+1,2,none⟩=some (.slice none 0 0):=qg_ HRC.out 2
        have sf2:wc.frozen? ⟨w.heap.size+1,2,none⟩=false:=qd_ HRC.out 2
        go_wp2
        refine bodyPost_ret (results_ct rfl _ _ (w.heap.size+1) 38 _ (0,0) _ rfl (qt_ (qt_ (qt_ HRC.out 0 _) 1 _) 2 _) hu rfl (by kernel_rfl)) rfl ?_
        exact ⟨_,rfl,Kd.R_nil _ _ _ _ _,dyB_box3 HBC.out (Nat.le_add_right _ 1) _ _ _⟩
       ·obtain rfl:ok9=true:=HOK9.out.trans cq
        obtain ⟨hq1,hq2⟩:=HAQ.out cq
        have hyq:y=q.1:=by rw [HY.out];unfold tellF;rw [if_pos cq]
        have HN2:=aK (show dynT d n (l0_2.take (i+1))=sumT O (scaleT L y) from by rw [HN.out,cq,Tb.chk_true,hyq];rfl)
        have hAD:∀ W A1 c1 A2 c2,TmsC W A1 c1 (termsT O)→TmsC W A2 c2 (termsT L)→Calls Try.prog 125 #[.agg #[.int .i64 (d:Int),.int .i64 (n:Int),.slice A1 (termsT O).length c1],.agg #[.int .i64 (d:Int),.int .i64 (n:Int),.slice A2 (termsT L).length c2],.agg #[.int .i64 y.f0,.int .i64 y.f1]] W (OutR W d n (outT (sumT O (scaleT L y)))):=fun W A1 c1 A2 c2 h1 h2=>by
         have z1:=terms_len HOL.out HS.out
         have z2:=terms_len HLL2.out HS.out
         have:=addFS W d n d n h1 h2 (terms_okL HOL.out.2.2) (terms_okL HLL2.out.2.2) (by omega) y (by rw [hyq];exact hq1)
         rwa [addS_terms O L (zeroT d n) HS.out HOL.out HLL2.out HG.out clg y (by rw [hyq];exact hq1) (by rw [hyq];exact hq2)] at this
        have HTO:=aK (show TmsC wc A6 c6 (termsT O) from (TmsC.of (Kd.qm2_ HV6.out HMC.out) (by have:=terms_len HOL.out HS.out;omega)).1)
        have HT7:=aK (show TmsC wc A7 c7 (termsT L) from (TmsC.of HV7C.out (by have:=terms_len HLL2.out HS.out;omega)).1)
        obtain ⟨S,hS⟩:∃ S,S=sumT O (scaleT L y):=⟨_,rfl⟩
        rw [← hS] at hAD HN2
        clear hS hq1 hq2 hyq cq clb clg HV7C HV74
        generalize termsT O=lt at hAD HTO HSC HS6 HV6
        generalize termsT L=lu at hAD HT7 HS7C HS7
        have p0:wc.cell? ⟨b4,0,none⟩=some (.int .i64 (d:Int)):=qg_ HSC.out 0
        have p1:wc.cell? ⟨b4,1,none⟩=some (.int .i64 (n:Int)):=qg_ HSC.out 1
        have p2:wc.cell? ⟨b4,2,none⟩=some (.slice A6 lt.length c6):=qg_ HSC.out 2
        have y0:wc.cell? ⟨b7,0,none⟩=some (.int .i64 (d:Int)):=qg_ HS7C.out 0
        have y1:wc.cell? ⟨b7,1,none⟩=some (.int .i64 (n:Int)):=qg_ HS7C.out 1
        have y2:wc.cell? ⟨b7,2,none⟩=some (.slice A7 lu.length c7):=qg_ HS7C.out 2
        have q0:wc.cell? ⟨b9,0,none⟩=some (.int .i64 y.f0):=qg_ HF9.out 0
        have q1:wc.cell? ⟨b9,1,none⟩=some (.int .i64 y.f1):=qg_ HF9.out 1
        by_cases csb:S.bad=true
        ·rw [outT_bad csb] at hAD
         obtain ⟨rfl,rfl,rfl,rfl⟩:=HBad.out (i+1) (by rw [HN2.out];exact csb)
         have HAD:=aK hAD
         clear hAD csb
         go_wp2_with (go_at_call 125;(with_reducible refine (HAD.out _ _ _ _ _ HTO.out HT7.out).mono ?_);rintro e w8 ⟨v,rfl,hv,hb⟩;obtain ⟨A9,c9,rfl⟩:=Kd.qf2_ hv;have HB8:=aK (show Below w.heap.size w w8 from qj_ HBC.out hb);clear y0 y1 y2 p0 p1 p2 q0 q1;have SR:=HRC.out.below hb;have s0:(w8.alloc (.cells #[.int .i64 0,.int .i64 0,.slice A9 0 c9] 38)).cell? ⟨w.heap.size+1,0,none⟩=some (.int .i64 0):=qg_ (SrAt.alloc SR _) 0;have sf0:(w8.alloc (.cells #[.int .i64 0,.int .i64 0,.slice A9 0 c9] 38)).frozen? ⟨w.heap.size+1,0,none⟩=false:=qd_ (SrAt.alloc SR _) 0;have s1:(w8.alloc (.cells #[.int .i64 0,.int .i64 0,.slice A9 0 c9] 38)).cell? ⟨w.heap.size+1,1,none⟩=some (.int .i64 0):=qg_ (SrAt.alloc SR _) 1;have sf1:(w8.alloc (.cells #[.int .i64 0,.int .i64 0,.slice A9 0 c9] 38)).frozen? ⟨w.heap.size+1,1,none⟩=false:=qd_ (SrAt.alloc SR _) 1;have s2:(w8.alloc (.cells #[.int .i64 0,.int .i64 0,.slice A9 0 c9] 38)).cell? ⟨w.heap.size+1,2,none⟩=some (.slice none 0 0):=qg_ (SrAt.alloc SR _) 2;have sf2:(w8.alloc (.cells #[.int .i64 0,.int .i64 0,.slice A9 0 c9] 38)).frozen? ⟨w.heap.size+1,2,none⟩=false:=qd_ (SrAt.alloc SR _) 2;have HS8:=aK SR;clear SR hv hb)
         refine bodyPost_ret (results_ct rfl _ _ (w.heap.size+1) 38 _ (0,0) _ rfl (qt_ (qt_ (qt_ (HS8.out.alloc _) 0 _) 1 _) 2 _) hu rfl (by kernel_rfl)) rfl ?_
         exact ⟨_,rfl,Kd.R_nil _ _ _ _ _,dyB_box3 (qb_ HB8.out _) (Nat.le_add_right _ 1) _ _ _⟩
        ·have csg:S.bad=false:=by simpa using csb
         rw [outT_good csg] at hAD
         have HGN:=aK (show (dynT d n (l0_2.take (i+1))).bad=false from by rw [HN2.out];exact csg)
         obtain ⟨lp,hlp⟩:∃ l,l=termsT S:=⟨_,rfl⟩
         have HNP:=aK (show termsT (dynT d n (l0_2.take (i+1)))=lp from by rw [HN2.out,hlp])
         rw [← hlp] at hAD
         have HAD:=aK hAD
         clear hAD csb csg hlp
         go_wp2_with (go_at_call 125;(with_reducible refine (HAD.out _ _ _ _ _ HTO.out HT7.out).mono ?_);rintro e w8 ⟨v,rfl,hv,hb⟩;obtain ⟨A9,c9,rfl⟩:=Kd.qf2_ hv;have HB8:=aK (show Below w.heap.size w w8 from qj_ HBC.out hb);clear y0 y1 y2 p0 p1 p2 q0 q1;have S6:=HSC.out.below hb;have k0:(w8.alloc (.cells #[.int .i64 (d:Int),.int .i64 (n:Int),.slice A9 lp.length c9] 38)).cell? ⟨b4,0,none⟩=some (.int .i64 (d:Int)):=qg_ (SrAt.alloc S6 _) 0;have kf0:(w8.alloc (.cells #[.int .i64 (d:Int),.int .i64 (n:Int),.slice A9 lp.length c9] 38)).frozen? ⟨b4,0,none⟩=false:=qd_ (SrAt.alloc S6 _) 0;have k1:(w8.alloc (.cells #[.int .i64 (d:Int),.int .i64 (n:Int),.slice A9 lp.length c9] 38)).cell? ⟨b4,1,none⟩=some (.int .i64 (n:Int)):=qg_ (SrAt.alloc S6 _) 1;have kf1:(w8.alloc (.cells #[.int .i64 (d:Int),.int .i64 (n:Int),.slice A9 lp.length c9] 38)).frozen? ⟨b4,1,none⟩=false:=qd_ (SrAt.alloc S6 _) 1;have k2:(w8.alloc (.cells #[.int .i64 (d:Int),.int .i64 (n:Int),.slice A9 lp.length c9] 38)).cell? ⟨b4,2,none⟩=some (.slice A6 lt.length c6):=qg_ (SrAt.alloc S6 _) 2;have kf2:(w8.alloc (.cells #[.int .i64 (d:Int),.int .i64 (n:Int),.slice A9 lp.length c9] 38)).frozen? ⟨b4,2,none⟩=false:=qd_ (SrAt.alloc S6 _) 2;have HS8:=aK S6;have HR8:=aK (HRC.out.below hb);have HX8:=aK (HXC.out.below hb);have HV9:=aK (show TermsR w8 w.heap.size (.slice A9 lp.length c9) lp from Kd.qn2_ hv HBC.out.size);clear S6 hv hb)
         go_roundg (l0_2.length - (i+1))
         case measure=>omega
         case rel =>
          refine ⟨i+1,A9,c9,by omega,by omega,by have:=HLL.out;first|rfl|(rw [w64 (by omega) (by omega)];rfl),HGN,⟨?_⟩,⟨?_⟩,⟨?_⟩,⟨?_⟩,⟨?_⟩⟩
          ·rw [HNP.out];exact dySr_box3 (HS8.out.alloc _)
          ·rw [HNP.out];exact dyR_box3 (Kd.qp1_ HV9.out _) (HS8.out.alloc _) _ _ _
          ·exact dySr_far3 (HX8.out.alloc _) (by have:=HLO.out;omega) _ _ _
          ·exact dySr_far3 (HR8.out.alloc _) (by have:=HLO.out;omega) _ _ _
          ·exact dyB_box3 (qb_ HB8.out _) (by have:=HLO.out;omega) _ _ _
   ·have hltz:¬ (i:Int) < (l0_2.length:Int):=by omega
    have hil:i=l0_2.length:=by omega
    rw [hil,List.take_length] at HG HS6 HV6
    rw [hil]
    clear hil
    obtain ⟨rfl,rfl,rfl,rfl⟩:=HEnd.out HG.out
    have x0:wr.cell? ⟨w.heap.size,0,none⟩=some (.int .i64 (d:Int)):=qg_ HX.out 0
    have x1:wr.cell? ⟨w.heap.size,1,none⟩=some (.int .i64 (n:Int)):=qg_ HX.out 1
    have x2:wr.cell? ⟨w.heap.size,2,none⟩=some (.slice A0_2 l0_2.length c0_2):=qg_ HX.out 2
    have q0:wr.cell? ⟨b4,0,none⟩=some (.int .i64 (d:Int)):=qg_ HS6.out 0
    have q1:wr.cell? ⟨b4,1,none⟩=some (.int .i64 (n:Int)):=qg_ HS6.out 1
    have q2:wr.cell? ⟨b4,2,none⟩=some (.slice A6 (termsT (dynT d n l0_2)).length c6):=qg_ HS6.out 2
    have s0:wr.cell? ⟨w.heap.size+1,0,none⟩=some (.int .i64 0):=qg_ HRB.out 0
    have sf0:wr.frozen? ⟨w.heap.size+1,0,none⟩=false:=qd_ HRB.out 0
    have s1:wr.cell? ⟨w.heap.size+1,1,none⟩=some (.int .i64 0):=qg_ HRB.out 1
    have sf1:wr.frozen? ⟨w.heap.size+1,1,none⟩=false:=qd_ HRB.out 1
    have s2:wr.cell? ⟨w.heap.size+1,2,none⟩=some (.slice none 0 0):=qg_ HRB.out 2
    have sf2:wr.frozen? ⟨w.heap.size+1,2,none⟩=false:=qd_ HRB.out 2
    go_wp2
    refine bodyPost_ret (results_ct rfl _ _ (w.heap.size+1) 38 _ (0,0) _ rfl (qt_ (qt_ (qt_ HRB.out 0 _) 1 _) 2 _) hu rfl (by kernel_rfl)) rfl ?_
    refine ⟨_,rfl,?_,dyB_box3 HB.out (Nat.le_add_right _ 1) _ _ _⟩
    exact dyR_box3 HV6.out HRB.out _ _ _
end Go.Proofs.Ytaiefdhenikiiaa.Base
