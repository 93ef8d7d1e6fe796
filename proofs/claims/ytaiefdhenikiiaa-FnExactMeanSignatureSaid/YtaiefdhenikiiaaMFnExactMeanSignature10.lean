/- Texts that the proof of FnExactMeanSignature needs, part 10. No condition. -/
import Derived.Test.YtaiefdhenikiiaaMFnExactMeanSignature9
import Derived.Deep.RegionLaw
namespace Go.Proofs.Ytaiefdhenikiiaa.Base
open Go.RowKit Go.Proofs.YtaiefdhenikiiaaW.PrintWords Go.Proofs.YtaiefdhenikiiaaW.PrintLast Go.Proofs.YtaiefdhenikiiaaW.PrintMore
set_option linter.unusedVariables false
set_option linter.unusedSimpArgs false
/-- A series that is a variable in block b. -/
def SrAt (W:World) (b:Nat) (d n:Int) (v:Value):Prop:=W.heap[b]?=some (.cells #[.int .i64 d,.int .i64 n,v] 38 (0,0))
section
variable {W W' w w':World} {b:Nat} {d n:Int} {v:Value}
theorem SrAt.c0 (H:SrAt W b d n v):W.cell? ⟨b,0,none⟩=some (.int .i64 d):=qj_ H 0
theorem SrAt.c1 (H:SrAt W b d n v):W.cell? ⟨b,1,none⟩=some (.int .i64 n):=qj_ H 1
theorem SrAt.c2 (H:SrAt W b d n v):W.cell? ⟨b,2,none⟩=some v:=qj_ H 2
theorem SrAt.lt (H:SrAt W b d n v):b < W.heap.size:=blk_lt H
theorem SrAt.below (H:SrAt W b d n v) (hb:Below W.heap.size W W'):SrAt W' b d n v:=ql_ H hb
theorem SrAt.alloc (H:SrAt W b d n v) (o:Obj):SrAt (W.alloc o) b d n v:=old_at H
theorem SrAt.drew (H:SrAt W b d n v):SrAt W.drew b d n v:=H
theorem SrAt.drewN (H:SrAt W b d n v) (m:Nat):SrAt (W.drewN m) b d n v:=H
theorem SrAt.far (H:SrAt W b d n v) {p:Addr} (h:b ≠ p.block) (u:Value):SrAt (W.setCell p u) b d n v:=qb2_ H h u
theorem SrAt.put (H:SrAt W b d n v) (u:Value):SrAt (W.setCell ⟨b,2,none⟩ u) b d n u:=qr_ H 2 u
theorem SrAt.grown (H:SrAt W b d n v) {row:Option Nat} (hg:W.grownBy W' row) (hne:some b ≠ row):SrAt W' b d n v:=qg3_ H hg hne
end
/-- One term more. -/
def termStep (t:Tb) (acc:List S79) (i:Nat):List S79:=if (t.vs.getD i zeroF).f0 ≠ 0 then acc ++ [⟨(wordsA t.d t.n).getD i ByteArray.empty,t.vs.getD i zeroF⟩] else acc
def termsN (t:Tb) (n:Nat):List S79:=(List.range n).foldl (termStep t) []
def termsT (t:Tb):List S79:=termsN t (wordsD t.d t.n).length
theorem termsN_succ (t:Tb) (n:Nat):termsN t (n+1)=termStep t (termsN t n) n:=by unfold termsN;rw [List.range_succ,List.foldl_append];rfl
theorem termsN_len (t:Tb) (n:Nat):(termsN t n).length≤n:=by
  induction n with
  | zero=>exact Nat.le_refl _
  | succ n ih =>
    rw [termsN_succ]
    unfold termStep
    split
    · rw [List.length_append,List.length_singleton];omega
    · omega
/-- A row of terms that the call made. -/
abbrev TermsR (W:World) (base:Nat) (v:Value) (l:List S79):Prop:=Kd.R k79 79 W base (fun _=>True) v l
theorem WordsAt.grown {w w':World} {B c:Nat} {A:Option Addr} {ws:List ByteArray} (h:WordsAt w B A c ws) {base:Nat} {v:Value} {l:List S79} (hr:TermsR w base v l) (hg:w.grownBy w' v.ownBlock):WordsAt w' B A c ws :=
  Kd.R_over' h (Kd.R_typed hr) (by decide) hg
theorem info79':(Try.prog.info? 79).map (fun i=>(i.zero,i.size,i.bytes))=some (some (.agg #[(.string ⟨#[]⟩),(.int .i64 0),(.int .i64 0)]),3,32):=by kernel_rfl
set_option maxHeartbeats 16000000 in
set_option maxRecDepth 100000 in
theorem series_ (w:World) {g h:Nat} {t:Tb} (H:TabAt w g h t) (ht:t.Ok) :
    Calls Try.prog 164 #[.pointer (some ⟨g,0,none⟩)] w fun e w'=>∃ v:Value,e=.returned (.agg #[.int .i64 (t.d:Int),.int .i64 (t.n:Int),v])∧TermsR w' w.heap.size v (termsT t)∧Below w.heap.size w w':=by
  have hu:=Try.underlying38
  have hu2:=Try.underlying79
  have hu3:=Try.underlying77
  have h0:=H.c0
  have h1:=H.c1
  have n0:=World.new_ne w _ h0
  have n2:=H.ltg
  have HT:=Aside0.mk H
  have OT:=Aside0.mk ht
  have n1:w.heap.size+1 ≠ g:=by omega
  have hsm:(wordsD t.d t.n).length≤19683:=wordsD_small _ _ ht.sz.d3 ht.sz.n8
  have HSM:=Aside0.mk hsm
  clear H ht hsm
  go_enter Try.func164,Try.ntmps164
  go_wp2
  go_region_held3 (fun w'=>w'.cell? ⟨g,0,none⟩=some (.int .i64 (t.d:Int))∧w'.cell? ⟨g,1,none⟩=some (.int .i64 (t.n:Int))) (go_keep) (fail)
  go_wp2
  go_region_held3 (fun w'=>w'.cell? ⟨g,0,none⟩=some (.int .i64 (t.d:Int))∧w'.cell? ⟨g,1,none⟩=some (.int .i64 (t.n:Int))) (go_keep) (first
    | (go_at_call 175;refine (allWords_ _ t.d t.n OT.out.sz).mono ?_;rintro e w3 ⟨A,c,rfl,W,hb⟩;have T3:TabAt w3 g h t:=TabAt.below (by repeat (first|(with_reducible exact HT.out)|(with_reducible refine TabAt.drewN ?_ _)|(with_reducible refine TabAt.drew ?_)|(with_reducible refine TabAt.alloc ?_ _))) hb;have HW:=Aside0.mk W;have HS2:=Aside0.mk (show SrAt w3 w.heap.size 0 0 (.slice none 0 0) from ql_ (by repeat' (first|(with_reducible refine drewN_at ?_)|(with_reducible refine drew_at ?_)|((with_reducible refine new_at ?_);simp;done)|(with_reducible refine old_at ?_)|((with_reducible refine qb2_ ?_ ?_ _);rotate_left;(focus (first|(simp;done)|(simp;omega)))))) hb);have HS3:=Aside0.mk (show SrAt w3 (w.heap.size+1) t.d t.n (.slice none 0 0) from ql_ (by repeat' (first|(with_reducible refine drewN_at ?_)|(with_reducible refine drew_at ?_)|((with_reducible refine new_at ?_);simp;done)|(with_reducible refine old_at ?_)|((with_reducible refine qb2_ ?_ ?_ _);rotate_left;(focus (first|(simp;done)|(simp;omega)))))) hb);have HB:=Aside0.mk (show Below w.heap.size w w3 from qe_ (by repeat (first|(with_reducible exact Below.refl _ _)|(with_reducible refine qc_ ?_)|(with_reducible refine qa_ ?_ _)|(with_reducible refine qb_ ?_ _))) hb);have z0:=T3.c0;have z1:=T3.c1;clear T3 W hb))
  go_wp2
  clear h0 h1 z0 z1 n0 n1 n2
  have HWL:=Aside0.mk (wordsA_len t.d t.n)
  go_loopg [25] (wordsD t.d t.n).length (fun gg v25 wr=>∃ (i:Nat) (v:Value),i≤(wordsD t.d t.n).length∧(wordsD t.d t.n).length - i≤gg∧v25=.int .i64 i∧Aside0 (Below w.heap.size w wr)∧Aside0 (SrAt wr w.heap.size 0 0 (.slice none 0 0))∧Aside0 (SrAt wr (w.heap.size+1) t.d t.n v)∧Aside0 (TermsR wr w.heap.size v (termsN t i))∧Aside0 (∃ B,WordsAt wr B A c (wordsA t.d t.n)))
  case atStart=>exact ⟨0,_,Nat.zero_le _,by omega,rfl,HB,HS2,HS3,⟨Kd.R_nil _ _ _ _ _⟩,⟨_,HW.out⟩⟩
  case round =>
    clear HB HS2 HS3 HW
    obtain ⟨i,v,hi,hg,rfl,HB,HS2,HS3,HR,HW⟩:=hrel
    by_cases hlt:i < (wordsD t.d t.n).length
    · have hltz:(i:Int) < ((wordsD t.d t.n).length:Int):=by omega
      obtain ⟨B,HWb⟩:=HW.out
      obtain ⟨ad,rfl,hx⟩:=HWb.at i (by have:=HWL.out;omega)
      obtain ⟨wd,hwd⟩:∃ x,x=(wordsA t.d t.n)[i]'(by have:=HWL.out;omega):=⟨_,rfl⟩
      rw [← hwd] at hx
      have HWD:=Aside0.mk hwd
      have HWB:=Aside0.mk HWb
      have hvl:i < t.vs.length:=by rw [OT.out.len];exact hlt
      have hvz:(i:Int) < (t.vs.length:Int):=by omega
      have T:=HT.out.below HB.out
      have t2:=T.c2
      have t3:=T.v0 i hvl
      have t4:=T.v1 i hvl
      have s2:=HS3.out.c2
      have e1:t.vs.getD i zeroF=t.vs[i]:=by rw [List.getD_eq_getElem?_getD,List.getElem?_eq_getElem hvl,Option.getD_some]
      have e2:(wordsA t.d t.n).getD i ByteArray.empty=wd:=by rw [hwd,List.getD_eq_getElem?_getD,List.getElem?_eq_getElem (by have:=HWL.out;omega),Option.getD_some]
      have E1:=Aside0.mk e1
      have E2:=Aside0.mk e2
      clear hwd HWb T e1 e2
      by_cases ca:t.vs[i].f0=0
      · go_wp2
        go_roundg ((wordsD t.d t.n).length - (i+1))
        case measure=>omega
        case rel =>
          refine ⟨i+1,v,by omega,by omega,by have:=HSM.out;first|rfl|(rw [w64 (by omega) (by omega)];rfl),HB,HS2,HS3,⟨?_⟩,HW⟩
          rw [termsN_succ]
          unfold termStep
          rw [E1.out,if_neg (fun hh=>hh ca)]
          exact HR.out
      · have ca2:(t.vs[i].f0 != 0)=true:=by simpa using ca
        go_wp2
        have l3:w.heap.size+1 < wr.heap.size:=HS3.out.lt
        have s3:(wr.alloc (.cells #[.string wd,.int .i64 t.vs[i].f0,.int .i64 t.vs[i].f1] 79)).cell? ⟨w.heap.size+1,2,none⟩=some v:=(HS3.out.alloc _).c2
        refine wp_region_noPanic ?_
        go_region_law ((refine Kd.qe3_ k79 w.heap.size rfl (.tmp 40) (.tmp 50) 24 79 (.agg #[(.string ⟨#[]⟩),(.int .i64 0),(.int .i64 0)]) 32 rfl Try.underlying24 info79' rfl (by decide) (by omega) v (termsN t i) ⟨wd,t.vs[i]⟩ [.string wd,.int .i64 t.vs[i].f0,.int .i64 t.vs[i].f1] (fun _=>True) (fun k=>some k ≠ v.ownBlock) rfl rfl (k79_mkM _ _ _ ⟨wd,t.vs[i]⟩) (fun _ h=>⟨trivial,h⟩) (fun _ _=>trivial) (Kd.R_drew HR.out) (qc_ HB.out) HB.out.size (by have:=termsN_len t i;have:=HSM.out;omega) ?_;intro v1 w1 ho hb hg hat;have S3:SrAt w1 (w.heap.size+1) t.d t.n v:=HS3.out.drew.grown hg (Kd.R_ne (Kd.R_drew HR.out) HS3.out.drew (by decide));have S2:SrAt w1 w.heap.size 0 0 (.slice none 0 0):=HS2.out.drew.grown hg (Kd.R_ne (Kd.R_drew HR.out) HS2.out.drew (by decide));obtain ⟨A1,c1,rfl⟩:=Kd.qa2_ ho;have HR1:=Aside0.mk ho;have HB1:=Aside0.mk hb;have HW1:=Aside0.mk (show ∃ B,WordsAt w1 B (some ad) c (wordsA t.d t.n) from ⟨B,WordsAt.grown (Kd.R_drew HWB.out) (Kd.R_drew HR.out) hg⟩);have u0:=S3.c2;have u1:=qd_ S3 2;have HS31:=Aside0.mk S3;have HS21:=Aside0.mk S2;clear S3 S2 ho hb hg hat))
        all_goals
          refine NoPanic.normal ?_
          go_wp2
          go_roundg ((wordsD t.d t.n).length - (i+1))
          case measure=>omega
          case rel =>
            refine ⟨i+1,_,by omega,by omega,by have:=HSM.out;first|rfl|(rw [w64 (by omega) (by omega)];rfl),⟨HB1.out.setCell (by simp) _⟩,⟨HS21.out.far (by simp) _⟩,⟨HS31.out.put _⟩,⟨?_⟩,?_⟩
            · rw [termsN_succ]
              unfold termStep
              rw [E1.out,E2.out,if_pos ca]
              have hh:=HR1.out
              rw [List.length_append,List.length_singleton] at hh
              exact Kd.R_set hh HS31.out (by decide) 2 _
            · obtain ⟨B,hB⟩:=HW1.out
              exact ⟨⟨B,Kd.R_set hB HS31.out (by decide) 2 _⟩⟩
    · have hltz:¬ (i:Int) < ((wordsD t.d t.n).length:Int):=by omega
      obtain rfl:i=(wordsD t.d t.n).length:=by omega
      obtain ⟨Av,cv,rfl⟩:=Kd.qa2_ HR.out
      have y0:=HS3.out.c0
      have y1:=HS3.out.c1
      have y2:=HS3.out.c2
      have x0:=HS2.out.c0
      have x1:=HS2.out.c1
      have x2:=HS2.out.c2
      have f0:=qd_ HS2.out 0
      have f1:=qd_ HS2.out 1
      have f2:=qd_ HS2.out 2
      go_wp2
      refine bodyPost_ret (results_cell_row rfl _ _ _ _ _ _ _ rfl (qr_ (qr_ (qr_ HS2.out 0 _) 1 _) 2 _) hu rfl (by kernel_rfl)) rfl ?_
      refine ⟨_,rfl,?_,?_⟩
      · exact Kd.R_set (Kd.R_set (Kd.R_set HR.out HS2.out (by decide) 0 _) (qr_ HS2.out 0 _) (by decide) 1 _) (qr_ (qr_ HS2.out 0 _) 1 _) (by decide) 2 _
      · exact ((HB.out.setCell (Nat.le_refl _) _).setCell (Nat.le_refl _) _).setCell (Nat.le_refl _) _
end Go.Proofs.Ytaiefdhenikiiaa.Base
namespace Go.Proofs.Ytaiefdhenikiiaa.Base
open Go.RowKit Go.Proofs.YtaiefdhenikiiaaW.PrintWords Go.Proofs.YtaiefdhenikiiaaW.PrintLast Go.Proofs.YtaiefdhenikiiaaW.PrintMore
set_option linter.unusedVariables false
set_option linter.unusedSimpArgs false
/-- A series and a code are handed back. -/
def SerRes (w:World) (d n:Int) (l:List S79) (code:Int) (e:Ending) (w':World):Prop:=∃ v:Value,e=.returned (.tuple #[.agg #[.int .i64 d,.int .i64 n,v],.int .i64 code])∧TermsR w' w.heap.size v l∧Below w.heap.size w w'
/-- What told says of a table. -/
def toldT (t:Tb) (w:World):Ending→World→Prop:=if t.bad=true then SerRes w 0 0 [] 3 else SerRes w t.d t.n (termsT t) 0
set_option maxHeartbeats 16000000 in
set_option maxRecDepth 100000 in
theorem told_ (w:World) {g h:Nat} {t:Tb} (H:TabAt w g h t) (ht:t.Ok):Calls Try.prog 96 #[.pointer (some ⟨g,0,none⟩)] w (toldT t w):=by
  have hu:=Try.underlying38
  have h3:=H.c3
  have hl:=H.ltg
  have HT:=Aside0.mk H
  have OT:=Aside0.mk ht
  clear H ht
  unfold toldT
  cases hb:t.bad with
  | true =>
    rw [if_pos rfl]
    rw [hb] at h3
    go_enter Try.func96,Try.ntmps96
    go_wp2
    refine bodyPost_ret (results_ct rfl _ _ w.heap.size 38 #[.int .i64 0,.int .i64 0,.slice none 0 0] (0,0) _ rfl (new_at rfl) hu rfl (by kernel_rfl)) rfl ?_
    exact ⟨_,rfl,Kd.R_nil _ _ _ _ _,qb_ (Below.refl _ _) _⟩
  | false =>
    rw [if_neg (by simp)]
    rw [hb] at h3
    go_enter Try.func96,Try.ntmps96
    go_wp2_with (go_at_call 164;refine (series_ _ (HT.out.alloc _) OT.out).mono ?_;rintro e w1 ⟨v,rfl,hv,hbl⟩;obtain ⟨A1,c1,rfl⟩:=Kd.qa2_ hv;have HV:=Aside0.mk hv;have HB:=Aside0.mk (show Below w.heap.size w w1 from qe_ (qb_ (Below.refl _ _) _) hbl);have S:=ql_ (new_at (W:=w) (cs:=#[.int .i64 0,.int .i64 0,.slice none 0 0]) (e:=38) rfl) hbl;have x0:w1.cell? ⟨w.heap.size,0,none⟩=some (.int .i64 0):=qj_ S 0;have x1:w1.cell? ⟨w.heap.size,1,none⟩=some (.int .i64 0):=qj_ S 1;have x2:w1.cell? ⟨w.heap.size,2,none⟩=some (.slice none 0 0):=qj_ S 2;have f0:=qd_ S 0;have f1:=qd_ S 1;have f2:=qd_ S 2;have HS:=Aside0.mk S;clear S hv hbl)
    refine bodyPost_ret (results_ct rfl _ _ w.heap.size 38 _ (0,0) _ rfl (qr_ (qr_ (qr_ HS.out 0 _) 1 _) 2 _) hu rfl (by kernel_rfl)) rfl ?_
    refine ⟨_,rfl,?_,?_⟩
    · refine Kd.qi2_ (Kd.R_set (Kd.R_set (Kd.R_set HV.out HS.out (by decide) 0 _) (qr_ HS.out 0 _) (by decide) 1 _) (qr_ (qr_ HS.out 0 _) 1 _) (by decide) 2 _) ?_
      simp
    · exact ((HB.out.setCell (Nat.le_refl _) _).setCell (Nat.le_refl _) _).setCell (Nat.le_refl _) _
end Go.Proofs.Ytaiefdhenikiiaa.Base
namespace Go.Proofs.Ytaiefdhenikiiaa.Base
open Go.RowKit Go.Proofs.YtaiefdhenikiiaaW.PrintWords Go.Proofs.YtaiefdhenikiiaaW.PrintLast Go.Proofs.YtaiefdhenikiiaaW.PrintMore
set_option linter.unusedVariables false
set_option linter.unusedSimpArgs false
/-- The digits of a text. -/
def decW (s:ByteArray):List Nat:=s.data.toList.map fun b=>b.toNat - 48
theorem decW_encW (l:List Nat) (h:∀ x ∈ l,x < 100):decW (encW l)=l:=by
  unfold decW encW
  rw [List.map_map]
  conv=>rhs;rw [← List.map_id l]
  apply List.map_congr_left
  intro x hx
  have:=h x hx
  simp only [Function.comp,UInt8.toNat_ofNat',id_eq]
  omega
section
variable {W W':World} {b:Nat} {x:S79}
end
end Go.Proofs.Ytaiefdhenikiiaa.Base
namespace Go.Proofs.Ytaiefdhenikiiaa.Base
open Go.RowKit Go.Proofs.YtaiefdhenikiiaaW.PrintWords Go.Proofs.YtaiefdhenikiiaaW.PrintLast Go.Proofs.YtaiefdhenikiiaaW.PrintMore
set_option linter.unusedVariables false
set_option linter.unusedSimpArgs false
def wholeF (a:Int):S77:=⟨a,1⟩
theorem whole_okF {a:Int} (h:-1000000000≤a∧a≤1000000000):okF (wholeF a):=⟨by show (1:Int)≤1;omega,by show (1:Int)≤1000000000;omega,h.1,h.2,by simp [wholeF]⟩
def stepN (d n:Nat) (row:List Int) (m:Nat):Tb:=(List.range m).foldl (fun o j=>o.put (1+j) (wholeF (row.getD j 0))) (zeroT d n)
theorem stepN_succ (d n:Nat) (row:List Int) (m:Nat):stepN d n row (m+1)=(stepN d n row m).put (1+m) (wholeF (row.getD m 0)):=by unfold stepN;rw [List.range_succ,List.foldl_append];rfl
/-- The numbers of a step. -/
def okRow (row:List Int):Prop:=∀ a ∈ row,-1000000000≤a∧a≤1000000000
theorem okRow_at {row:List Int} (h:okRow row) (m:Nat):-1000000000≤row.getD m 0∧row.getD m 0≤1000000000:=by
  rw [List.getD_eq_getElem?_getD]
  cases hx:row[m]? with
  | none=>simp
  | some x=>exact h x (List.mem_of_getElem? hx)
theorem stepN_like {d n:Nat} (hs:Sz d n) {row:List Int} (h:okRow row) (m:Nat):Like (stepN d n row m) (zeroT d n):=by
  induction m with
  | zero=>exact ⟨rfl,rfl,zeroT_ok hs⟩
  | succ m ih=>rw [stepN_succ];exact ⟨ih.1,ih.2.1,ih.2.2.put _ (whole_okF (okRow_at h m))⟩
def stepT (d n:Nat) (row:List Int):Tb:=stepN d n row row.length
def stepSigT (d n:Nat) (row:List Int):Tb:=expT (stepT d n row) (zeroT d n)
theorem stepSigT_like {d n:Nat} (hs:Sz d n) (row:List Int):Like (stepSigT d n row) (zeroT d n):=expT_like hs
theorem newTableL (w:World) (d n:Nat) (hs:Sz d n):Calls Try.prog 126 #[.int .i64 (d:Int),.int .i64 (n:Int)] w (NewT w (zeroT d n) (zeroT d n)):=by
  refine (newTable_ w d n hs).mono ?_
  rintro e w' ⟨g',h',rfl,T,hg,hh,hb⟩
  exact ⟨g',h',rfl,⟨T,⟨rfl,rfl,zeroT_ok hs⟩⟩,hg,hh,hb⟩
theorem zero_len {d n:Nat} (hs:Sz d n) (hn:1≤n):d < (wordsD d n).length:=by
  rw [wordsD_len]
  obtain ⟨m,rfl⟩:∃ m,n=m+1:=⟨n - 1,by omega⟩
  have h1:aheadN d 2≤aheadN d (m+1+1):=by
    clear hs hn
    induction m with
    | zero=>exact Nat.le_refl _
    | succ m ih=>exact Nat.le_trans ih (by simp only [aheadN];omega)
  have h2:aheadN d 2=1+d:=by simp [aheadN]
  omega
set_option maxHeartbeats 16000000 in
set_option maxRecDepth 100000 in
theorem stepSignature_ (w:World) (d n:Nat) (A:Option Addr) (c:Nat) (row:List Int) (hr:Kd.C (Kd.int .i64) w A row.length row) (hs:Sz d n) (hn:1≤n) (hl:row.length≤d) (ho:okRow row) :
    Calls Try.prog 105 #[.int .i64 (d:Int),.int .i64 (n:Int),.slice A row.length c] w (NewT w (stepSigT d n row) (zeroT d n)):=by
  have hu3:=Try.underlying77
  have HR:=Aside0.mk hr
  have HS:=Aside0.mk hs
  have HO_:=Aside0.mk ho
  have hd3:=hs.d3
  have hzl:=zero_len hs hn
  have HZL:=Aside0.mk hzl
  clear hr hs ho hzl
  go_enter Try.func105,Try.ntmps105
  go_wp2_with (go_at_call 126;refine (newTableL _ d n HS.out).mono ?_;rintro e w1 ⟨g1,k1,rfl,T,hg,hh,hb⟩;have HO:=Aside0.mk T.tab;have HG:=Aside0.mk hg;have HH:=Aside0.mk hh;have HB:=Aside0.mk hb;clear T hg hh hb)
  go_loopg [15] row.length (fun gg v15 wr=>∃ i:Nat,i≤row.length∧row.length - i≤gg∧v15=.int .i64 i∧Aside0 (TabAt wr g1 k1 (stepN d n row i))∧Aside0 (Below w.heap.size w wr))
  case atStart=>exact ⟨0,Nat.zero_le _,by omega,rfl,HO,HB⟩
  case round =>
    clear HO HB
    obtain ⟨i,hi,hg,rfl,HO,HB⟩:=hrel
    by_cases hlt:i < row.length
    · have hltz:(i:Int) < (row.length:Int):=by omega
      obtain ⟨ad,rfl,x0⟩:=Kd.at_int (Kd.qw1_ HR.out HB.out) (i:Int) (by omega) (by omega)
      have e1:rd row (i:Int)=row.getD i 0:=by simp [rd]
      obtain ⟨x,hx⟩:∃ x,x=row.getD i 0:=⟨_,rfl⟩
      rw [e1,← hx,Int.toNat_natCast] at x0
      have HX:=Aside0.mk hx
      have hlk:=stepN_like HS.out HO_.out i
      obtain ⟨O,hO⟩:∃ O,O=stepN d n row i:=⟨_,rfl⟩
      rw [← hO] at hlk HO
      have HOO:=Aside0.mk hO
      have hkk:1+i < O.vs.length:=by rw [hlk.2.2.len,hlk.1,hlk.2.1];show 1+i < (wordsD d n).length;have:=HZL.out;omega
      obtain ⟨kk,hke⟩:∃ kk,kk=1+i:=⟨_,rfl⟩
      rw [← hke] at hkk
      have hkz:(kk:Int) < (O.vs.length:Int):=by omega
      have HKE:=Aside0.mk hke
      have hke2:1+(i:Int)=(kk:Int):=by omega
      clear hke
      have o2:=HO.out.c2
      have m1:k1 ≠ g1:=HO.out.ne.symm
      have hk64:kk≤1000000:=by omega
      have w1':IntKind.i64.wrap (kk:Int)=(kk:Int):=by rw [i64_w,w64 (by omega) (by omega)]
      have w2':(0:Int)≤(kk:Int):=by omega
      clear hx e1 hO hlk
      go_wp2
      go_region_held3 (fun w'=>w'.cell? ⟨g1,2,none⟩=some (.slice (some ⟨k1,0,none⟩) O.vs.length O.vs.length)) (go_keep) (first
        | (go_at_call 165;refine (impl_whole.calls x x 1 _ rfl).mono ?_;rintro e w2 ⟨rfl,hb⟩;have O2:TabAt w2 g1 k1 O:=TabAt.below (by repeat (first|(with_reducible exact HO.out)|(with_reducible refine TabAt.drew ?_)|(with_reducible refine TabAt.alloc ?_ _))) hb;have HB2:=Aside0.mk (show Below w.heap.size w w2 from qe_ (by repeat (first|(with_reducible exact HB.out)|(with_reducible refine qc_ ?_)|(with_reducible refine qb_ ?_ _))) hb);have c1:=O2.c2;have c6:=O2.v0 kk hkk;have c7:=O2.v1 kk hkk;have c8:=qd_ O2.vl (kk * 2);have c9:=qd_ O2.vl (kk * 2+1);have HO2:=Aside0.mk O2;clear O2 hb))
      go_wp2
      go_roundg (row.length - (i+1))
      case measure=>omega
      case rel =>
        refine ⟨i+1,by omega,by omega,by first|rfl|(rw [w64 (by omega) (by omega)];rfl),⟨?_⟩,⟨(HB2.out.setCell HH.out _).setCell HH.out _⟩⟩
        rw [stepN_succ,← HOO.out,← HX.out,← HKE.out]
        exact HO2.out.put kk hkk (wholeF x)
    · have hltz:¬ (i:Int) < (row.length:Int):=by omega
      obtain rfl:i=row.length:=by omega
      go_wp2_with (go_at_call 145;refine (exponential' _ ⟨HO.out,stepN_like HS.out HO_.out _⟩ (zeroT_ok HS.out)).mono ?_;rintro e w2 ⟨g2,k2,rfl,T,hg,hh,hb⟩;have HO2:=Aside0.mk T;have HG2:=Aside0.mk (Nat.le_trans HB.out.size hg);have HH2:=Aside0.mk (Nat.le_trans HB.out.size hh);have HB2:=Aside0.mk (show Below w.heap.size w w2 from qe_ HB.out hb);clear T hg hh hb)
      go_returns
      exact ⟨g2,k2,rfl,HO2.out,HG2.out,HH2.out,HB2.out⟩
end Go.Proofs.Ytaiefdhenikiiaa.Base
namespace Go.Proofs.Ytaiefdhenikiiaa.Base
open Go.RowKit Go.Proofs.YtaiefdhenikiiaaW.PrintWords Go.Proofs.YtaiefdhenikiiaaW.PrintLast Go.Proofs.YtaiefdhenikiiaaW.PrintMore
set_option linter.unusedVariables false
set_option linter.unusedSimpArgs false
theorem rows_at {w:World} {A:Option Addr} {n:Nat} {xs:List (List Int)} (h:Kd.C (Kd.slice 2 (Kd.int .i64)) w A n xs) (i:Nat) (h1:i < n):∃ ad A0 c0,A=some ad∧w.cell? (ad.add i)=some (.slice A0 (xs.getD i []).length c0)∧(xs.getD i []).length≤c0∧(Kd.int .i64).C w A0 (xs.getD i []).length (xs.getD i []):=by
  obtain ⟨ad,c,e,_,hK,hc0⟩:=Kd.C_get h ([]:List Int) (i:Int) (by omega) (by omega)
  have hc:∀ j u,c[j]?=some u→w.cell? (ad.add (i * 1+j))=some u:=hc0
  obtain ⟨A0,c0,rfl,l0,g0⟩:=hK
  exact ⟨ad,A0,c0,e,by have hq:=hc 0 _ rfl;rwa [Nat.mul_one,Nat.add_zero] at hq,l0,g0⟩
end Go.Proofs.Ytaiefdhenikiiaa.Base
namespace Go.Proofs.Ytaiefdhenikiiaa.Base
open Go.RowKit Go.Proofs.YtaiefdhenikiiaaW.PrintWords Go.Proofs.YtaiefdhenikiiaaW.PrintLast Go.Proofs.YtaiefdhenikiiaaW.PrintMore
set_option linter.unusedVariables false
set_option linter.unusedSimpArgs false
theorem sin_is (x lo hi:Int):qp1_.f x lo hi=some (decide (lo≤x∧x≤hi)):=by
  unfold qp1_.f
  by_cases h:lo≤x
  · simp [h]
  · simp [h]
end Go.Proofs.Ytaiefdhenikiiaa.Base
namespace Go.Proofs.Ytaiefdhenikiiaa.Base
open Go.RowKit Go.Proofs.YtaiefdhenikiiaaW.PrintWords Go.Proofs.YtaiefdhenikiiaaW.PrintLast Go.Proofs.YtaiefdhenikiiaaW.PrintMore
set_option linter.unusedVariables false
set_option linter.unusedSimpArgs false
def lvlB (D N:Int):Bool:=decide (1≤D∧D≤3) && (decide (1≤N∧N≤5) && (decide (D < 3) || decide (N < 5)))
theorem lvl_impl (D N:Int):qv2_.f D N=some (lvlB D N):=by
  unfold qv2_.f qo2_.f lvlB
  simp only [within_is,Option.bind_some]
  by_cases h1:1≤D∧D≤3
  · by_cases h2:1≤N∧N≤5
    · by_cases h3:D < 3 <;> simp [h1,h2,h3]
    · simp [h1,h2]
  · simp [h1]
theorem lvl_spec (D N:Int):qb3_.f D N=some (lvlB D N):=by
  unfold qb3_.f lvlB
  simp only [sin_is,Option.bind_some]
  by_cases h1:1≤D∧D≤3
  · by_cases h2:1≤N∧N≤5
    · by_cases h3:D < 3 <;> simp [h1,h2,h3]
    · simp [h1,h2]
  · simp [h1]
theorem lvl_nat {D N:Int} (h:lvlB D N=true):∃ d n:Nat,D=d∧N=n∧(1≤d∧d≤3)∧1≤n∧n≤5:=by
  unfold lvlB at h
  simp only [Bool.and_eq_true,decide_eq_true_eq] at h
  obtain ⟨h1,h2,_⟩:=h
  exact ⟨D.toNat,N.toNat,by omega,by omega,⟨by omega,by omega⟩,by omega,by omega⟩
end Go.Proofs.Ytaiefdhenikiiaa.Base
namespace Go.Proofs.Ytaiefdhenikiiaa.Base
open Go.RowKit Go.Proofs.YtaiefdhenikiiaaW.PrintWords Go.Proofs.YtaiefdhenikiiaaW.PrintLast Go.Proofs.YtaiefdhenikiiaaW.PrintMore
set_option linter.unusedVariables false
set_option linter.unusedSimpArgs false
theorem w64r {x:Int} (h0:-9223372036854775808≤x) (h1:x≤9223372036854775807):wrap64 x=x:=by unfold wrap64;omega
def total (l:List (List Int)):Nat:=(l.map List.length).sum
theorem szRow (l:List Int) (a:Int) (hl:l.length≤9223372036854775807) (ha:0≤a) (ha1:a≤1048576):qc3_.f l a=some (if a - l.length < 0 then -1 else a - l.length):=by
  unfold qc3_.f
  rw [w64r (by omega) (by omega)]
  split <;> rfl
theorem szRows (l:List (List Int)) (hl:l.length≤9223372036854775807) (hr:∀ r ∈ l,r.length≤9223372036854775807) (m:Nat):∀ (j:Nat) (a:Int),j+m=l.length→0≤a→a≤1048576 →
    ∃ r:Int,Ev (fun k=>qb1_.l0 k l a (j:Int)) r∧(r < 0 ∨ r=a - total (l.drop j)):=by
  induction m with
  | zero =>
    intro j a hj ha ha1
    refine ⟨a,Ev.step (f:=fun _=>some a) (fun k=>?_) (Ev.now _),.inr ?_⟩
    · simp only [qb1_.l0];rw [if_neg (by omega)]
    · rw [List.drop_eq_nil_of_le (by omega)];simp [total]
  | succ m ih =>
    intro j a hj ha ha1
    have hlt:j < l.length:=by omega
    have e3:rd_L7 l (j:Int)=l[j]:=by simp [rd_L7,List.getElem?_eq_getElem hlt]
    have hrow:=szRow l[j] a (hr _ (List.getElem_mem hlt)) ha ha1
    have hd:total (l.drop j)=l[j].length+total (l.drop (j+1)):=by
      rw [List.drop_eq_getElem_cons hlt];simp only [total,List.map_cons,List.sum_cons]
    by_cases c:a - l[j].length < 0
    · refine ⟨-1,Ev.step (f:=fun _=>some (-1)) (fun k=>?_) (Ev.now _),.inl (by omega)⟩
      simp only [qb1_.l0]
      rw [if_pos (by omega),if_pos (by omega),e3,hrow,if_pos c]
      simp
    · obtain ⟨r,h1,h2⟩:=ih (j+1) (a - l[j].length) (by omega) (by omega) (by omega)
      refine ⟨r,Ev.step (fun k=>?_) h1,?_⟩
      · simp only [qb1_.l0]
        rw [if_pos (by omega),if_pos (by omega),e3,hrow,if_neg c]
        simp only [Option.bind_some]
        rw [if_neg c,w64r (x:=(j:Int)+1) (by omega) (by omega)]
        rfl
      · rcases h2 with h2|h2
        · exact .inl h2
        · right;rw [h2,hd];omega
/-- The size check: it ends;and where it does not turn the input away the rows are short. -/
theorem sz_both (l:List (List Int)) (hl:l.length≤9223372036854775807) (hr:∀ r ∈ l,r.length≤9223372036854775807):∃ r:Int,Ev (fun k=>qb1_.f k l 1048576) r∧(r < 0 ∨ l.length+total l≤1048576):=by
  by_cases c:wrap64 (1048576 - (l.length:Int)) < 0
  · exact ⟨-1,Ev.congr (g:=fun k=>qb1_.f k l 1048576) (f:=fun _=>some (-1)) (fun k=>by unfold qb1_.f;rw [if_pos c]) (Ev.now _),.inl (by omega)⟩
  · have e:wrap64 (1048576 - (l.length:Int))=1048576 - l.length:=w64r (by omega) (by omega)
    rw [e] at c
    obtain ⟨r,h1,h2⟩:=szRows l hl hr l.length 0 (1048576 - l.length) (by omega) (by omega) (by omega)
    refine ⟨r,Ev.congr (fun k=>?_) h1,?_⟩
    · show qb1_.f k l 1048576=_
      unfold qb1_.f;rw [e,if_neg c];rfl
    · rcases h2 with h2|h2
      · exact .inl h2
      · rw [List.drop_zero] at h2
        by_cases h:r < 0
        · exact .inl h
        · right;omega
theorem total_mem {l:List (List Int)} {r:List Int} (h:r ∈ l):r.length≤total l:=by
  induction l with
  | nil=>simp at h
  | cons a l ih =>
    simp only [total,List.map_cons,List.sum_cons]
    rcases List.mem_cons.1 h with rfl|h
    · omega
    · have:=ih h;simp only [total] at this;omega
theorem copyRow (l:List Int) (hl:l.length≤1048576) (m:Nat):∀ j:Nat,j+m=l.length→Ev (fun k=>qk1_.l0 k l (l.take j ++ List.replicate m 0) (j:Int)) l:=by
  induction m with
  | zero =>
    intro j hj
    refine Ev.step (f:=fun _=>some l) (fun k=>?_) (Ev.now _)
    simp only [qk1_.l0]
    rw [if_neg (by omega),List.take_of_length_le (by omega)];simp
  | succ m ih =>
    intro j hj
    have hlt:j < l.length:=by omega
    refine Ev.step (fun k=>?_) (ih (j+1) (by omega))
    simp only [qk1_.l0]
    have hlen:(l.take j ++ List.replicate (m+1) 0).length=l.length:=by simp;omega
    rw [if_pos (by omega),if_pos (by omega),if_pos (by omega),w64r (x:=(j:Int)+1) (by omega) (by omega)]
    have e:(l.take j ++ List.replicate (m+1) 0).set (j:Int).toNat (rd l (j:Int))=l.take (j+1) ++ List.replicate m 0:=by
      rw [Int.toNat_natCast,List.set_append,if_neg (by simp;omega)]
      simp only [List.length_take,Nat.min_eq_left (Nat.le_of_lt hlt),Nat.sub_self,List.replicate_succ,List.set_cons_zero]
      have e5:rd l (j:Int)=l[j]:=by simp [rd,List.getElem?_eq_getElem hlt]
      rw [e5,List.take_succ_eq_append_getElem hlt,List.append_assoc];rfl
    rw [e];rfl
theorem copy_row (l:List Int) (hl:l.length≤1048576):Ev (fun k=>qk1_.f k l) l:=by
  refine Ev.congr (fun k=>?_) (copyRow l hl l.length 0 (by omega))
  unfold qk1_.f
  rw [if_pos (by omega),if_pos (by omega)]
  simp
theorem copyRows (l:List (List Int)) (hl:l.length≤1048576) (hr:∀ r ∈ l,r.length≤1048576) (m:Nat):∀ j:Nat,j+m=l.length→Ev (fun k=>qw_.l0 k l (l.take j ++ List.replicate m []) (j:Int)) l:=by
  induction m with
  | zero =>
    intro j hj
    refine Ev.step (f:=fun _=>some l) (fun k=>?_) (Ev.now _)
    simp only [qw_.l0]
    rw [if_neg (by omega),List.take_of_length_le (by omega)];simp
  | succ m ih =>
    intro j hj
    have hlt:j < l.length:=by omega
    have e3:rd_L7 l (j:Int)=l[j]:=by simp [rd_L7,List.getElem?_eq_getElem hlt]
    refine Ev.step (f:=fun k=>(qk1_.f k l[j]).bind fun t=>qw_.l0 k l (l.take j ++ t :: List.replicate m []) ((j+1:Nat):Int)) (fun k=>?_) (Ev.bind (copy_row l[j] (hr _ (List.getElem_mem hlt))) ?_)
    · simp only [qw_.l0]
      have hlen:(l.take j ++ List.replicate (m+1) []).length=l.length:=by simp;omega
      rw [if_pos (by omega),if_pos (by omega),e3,w64r (x:=(j:Int)+1) (by omega) (by omega)]
      congr 1;funext t
      rw [if_pos (by omega),Int.toNat_natCast,List.set_append,if_neg (by simp;omega)]
      simp only [List.length_take,Nat.min_eq_left (Nat.le_of_lt hlt),Nat.sub_self,List.replicate_succ,List.set_cons_zero]
      rfl
    · have:=ih (j+1) (by omega)
      rw [List.take_succ_eq_append_getElem hlt,List.append_assoc] at this
      exact this
theorem copy_rows (l:List (List Int)) (hl:l.length≤1048576) (hr:∀ r ∈ l,r.length≤1048576):Ev (fun k=>qw_.f k l) l:=by
  refine Ev.congr (fun k=>?_) (copyRows l hl hr l.length 0 (by omega))
  unfold qw_.f
  rw [if_pos (by omega),if_pos (by omega)]
  simp
theorem sameRow (l:List Int) (hl:l.length≤1048576) (m:Nat):∀ j:Nat,j+m=l.length→Ev (fun k=>qd1_.l0 k l l (j:Int)) true:=by
  induction m with
  | zero =>
    intro j hj
    refine Ev.step (f:=fun _=>some true) (fun k=>?_) (Ev.now _)
    simp only [qd1_.l0];rw [if_neg (by omega)]
  | succ m ih =>
    intro j hj
    refine Ev.step (fun k=>?_) (ih (j+1) (by omega))
    simp only [qd1_.l0]
    rw [if_pos (by omega),if_pos (by omega),if_pos (by omega),w64r (x:=(j:Int)+1) (by omega) (by omega)];simp only [if_true];rfl
theorem same_row (l:List Int) (hl:l.length≤1048576):Ev (fun k=>qd1_.f k l l) true:=by
  refine Ev.congr (fun k=>?_) (sameRow l hl l.length 0 (by omega))
  unfold qd1_.f;rw [if_pos rfl];rfl
theorem sameRows (l:List (List Int)) (hl:l.length≤1048576) (hr:∀ r ∈ l,r.length≤1048576) (m:Nat):∀ j:Nat,j+m=l.length→Ev (fun k=>qj1_.l0 k l l (j:Int)) true:=by
  induction m with
  | zero =>
    intro j hj
    refine Ev.step (f:=fun _=>some true) (fun k=>?_) (Ev.now _)
    simp only [qj1_.l0];rw [if_neg (by omega)]
  | succ m ih =>
    intro j hj
    have hlt:j < l.length:=by omega
    have e3:rd_L7 l (j:Int)=l[j]:=by simp [rd_L7,List.getElem?_eq_getElem hlt]
    refine Ev.step (f:=fun k=>(qd1_.f k l[j] l[j]).bind fun t=>if t=true then qj1_.l0 k l l ((j+1:Nat):Int) else some false) (fun k=>?_) (Ev.bind (same_row l[j] (hr _ (List.getElem_mem hlt))) ?_)
    · simp only [qj1_.l0]
      rw [if_pos (by omega),if_pos (by omega),if_pos (by omega),e3,w64r (x:=(j:Int)+1) (by omega) (by omega)];rfl
    · simp only [if_true]
      exact ih (j+1) (by omega)
theorem same_rows (l:List (List Int)) (hl:l.length≤1048576) (hr:∀ r ∈ l,r.length≤1048576):Ev (fun k=>qj1_.f k l l) true:=by
  refine Ev.congr (fun k=>?_) (sameRows l hl hr l.length 0 (by omega))
  unfold qj1_.f;rw [if_pos rfl];rfl
theorem step_set {α:Type} (A B:List α) (h:A.length=B.length) (j:Nat) (hj:j < A.length):(A.take j ++ B.drop j).set j A[j]=A.take (j+1) ++ B.drop (j+1):=by
  have hjB:j < B.length:=by omega
  rw [List.set_append,if_neg (by simp;omega)]
  simp only [List.length_take,Nat.min_eq_left (Nat.le_of_lt hj),Nat.sub_self]
  rw [List.drop_eq_getElem_cons hjB,List.set_cons_zero,List.take_succ_eq_append_getElem hj,List.append_assoc];rfl
def nums (k0:Int) (n:Nat):List Int:=(List.range n).map fun j=>k0+(j:Nat)
theorem nums_len (k0:Int) (n:Nat):(nums k0 n).length=n:=by simp [nums]
theorem nums_at (k0:Int) (n j:Nat) (h:j < (nums k0 n).length):(nums k0 n)[j]=k0+(j:Nat):=by simp [nums]
theorem markI_loop (l:List Int) (k0:Int) (h0:0≤k0) (h1:k0+l.length≤1152921504606846976) (m:Nat):∀ j:Nat,j+m=l.length →
    Ev (fun q=>qh1_.l0 q ((nums k0 l.length).take j ++ l.drop j) (k0+j) (j:Int)) (k0+l.length,nums k0 l.length):=by
  induction m with
  | zero =>
    intro j hj
    refine Ev.step (f:=fun _=>some (k0+l.length,nums k0 l.length)) (fun q=>?_) (Ev.now _)
    simp only [qh1_.l0]
    rw [if_neg (by simp [nums_len];omega),show j=l.length by omega,List.drop_length,List.append_nil,List.take_of_length_le (by rw [nums_len];omega)]
  | succ m ih =>
    intro j hj
    have hlt:j < (nums k0 l.length).length:=by rw [nums_len];omega
    refine Ev.step (fun q=>?_) (ih (j+1) (by omega))
    simp only [qh1_.l0]
    rw [if_pos (by simp [nums_len];omega),if_pos (by omega),w64r (x:=k0+j+1) (by omega) (by omega),w64r (x:=(j:Int)+1) (by omega) (by omega),Int.toNat_natCast]
    have:=step_set (nums k0 l.length) l (nums_len _ _) j hlt
    rw [nums_at] at this
    rw [this,show k0+(j:Int)+1=k0+((j+1:Nat):Int) by omega];rfl
theorem markI (l:List Int) (k0:Int) (h0:0≤k0) (h1:k0+l.length≤1152921504606846976):Ev (fun q=>qh1_.f q l k0) (k0+l.length,nums k0 l.length):=by
  have:=markI_loop l k0 h0 h1 l.length 0 (by omega)
  simpa [qh1_.f] using this
def numsS:Int→List (List Int)→List (List Int)
  | _,[]=>[]
  | k0,r :: l=>nums k0 r.length :: numsS (k0+r.length) l
theorem numsS_len:∀ (k0:Int) (l:List (List Int)),(numsS k0 l).length=l.length
  | _,[]=>rfl
  | k0,r :: l=>by simp [numsS,numsS_len]
theorem total_take (l:List (List Int)) (j:Nat) (h:j < l.length):total (l.take (j+1))=total (l.take j)+l[j].length:=by
  rw [List.take_succ_eq_append_getElem h];simp only [total,List.map_append,List.map_cons,List.map_nil,List.sum_append,List.sum_cons,List.sum_nil];omega
theorem total_take_le (l:List (List Int)) (j:Nat):total (l.take j)≤total l:=by
  have:total l=total (l.take j)+total (l.drop j):=by
    simp only [total]
    rw [← List.sum_append,← List.map_append,List.take_append_drop]
  omega
theorem numsS_at:∀ (k0:Int) (l:List (List Int)) (j:Nat) (h:j < (numsS k0 l).length) (h':j < l.length),(numsS k0 l)[j]=nums (k0+total (l.take j)) l[j].length
  | _,[],j,h,h'=>absurd h' (Nat.not_lt_zero _)
  | k0,r :: l,0,h,h'=>by simp [numsS,total]
  | k0,r :: l,j+1,h,h'=>by
    have:=numsS_at (k0+r.length) l j (by rw [numsS_len];simpa using h') (by simpa using h')
    simp only [numsS,List.getElem_cons_succ,List.take_succ_cons]
    rw [this]
    congr 1
    simp only [total,List.map_cons,List.sum_cons];omega
theorem markSS_loop (l:List (List Int)) (k0:Int) (h0:0≤k0) (h1:k0+total l≤1152921504606846976) (hl:l.length≤1048576) (m:Nat):∀ j:Nat,j+m=l.length →
    Ev (fun q=>qz_.l0 q ((numsS k0 l).take j ++ l.drop j) (k0+total (l.take j)) (j:Int)) (k0+total l,numsS k0 l):=by
  induction m with
  | zero =>
    intro j hj
    refine Ev.step (f:=fun _=>some (k0+total l,numsS k0 l)) (fun q=>?_) (Ev.now _)
    simp only [qz_.l0]
    rw [if_neg (by simp [numsS_len];omega),show j=l.length by omega,List.drop_length,List.append_nil,List.take_of_length_le (l:=numsS k0 l) (i:=l.length) (by rw [numsS_len];omega),List.take_length]
  | succ m ih =>
    intro j hj
    have hlt:j < l.length:=by omega
    have hlt2:j < (numsS k0 l).length:=by rw [numsS_len];omega
    have ht:=total_take l j hlt
    have hle:=total_take_le l (j+1)
    have e3:rdRow35 ((numsS k0 l).take j ++ l.drop j) (j:Int)=l[j]:=by
      simp only [rdRow35,Int.toNat_natCast,List.getD_eq_getElem?_getD]
      rw [List.getElem?_append_right (by simp;omega)]
      simp only [List.length_take,numsS_len,Nat.min_eq_left (Nat.le_of_lt hlt),Nat.sub_self,List.getElem?_drop,Nat.add_zero,List.getElem?_eq_getElem hlt,Option.getD_some]
    refine Ev.step (f:=fun q=>(qh1_.f q l[j] (k0+total (l.take j))).bind fun p=>qz_.l0 q (((numsS k0 l).take j ++ l.drop j).set j p.2) p.1 ((j+1:Nat):Int)) (fun q=>?_) (Ev.bind (markI l[j] (k0+total (l.take j)) (by omega) (by omega)) ?_)
    · simp only [qz_.l0]
      rw [if_pos (by simp [numsS_len];omega),if_pos (by omega),e3,w64r (x:=(j:Int)+1) (by omega) (by omega),Int.toNat_natCast];rfl
    · have:=step_set (numsS k0 l) l (numsS_len _ _) j hlt2
      rw [numsS_at k0 l j hlt2 hlt] at this
      dsimp only
      rw [this,show k0+(total (l.take j):Int)+(l[j].length:Int)=k0+(total (l.take (j+1)):Int) by omega]
      exact ih (j+1) (by omega)
theorem markSS (l:List (List Int)) (k0:Int) (h0:0≤k0) (h1:k0+total l≤1152921504606846976) (hl:l.length≤1048576):Ev (fun q=>qz_.f q l k0) (k0+total l,numsS k0 l):=by
  have:=markSS_loop l k0 h0 h1 hl l.length 0 (by omega)
  simpa [total,qz_.f] using this
end Go.Proofs.Ytaiefdhenikiiaa.Base
namespace Go.Proofs.Ytaiefdhenikiiaa.Base
open Go.RowKit Go.Proofs.YtaiefdhenikiiaaW.PrintWords Go.Proofs.YtaiefdhenikiiaaW.PrintLast Go.Proofs.YtaiefdhenikiiaaW.PrintMore
set_option linter.unusedVariables false
set_option linter.unusedSimpArgs false
theorem foldl_val (d:Nat) (l:List Nat):∀ v,l.foldl (fun v x=>v * d+x) v=v * d ^ l.length+valN d l:=by
  induction l with
  | nil=>intro v;simp [valN]
  | cons x l ih =>
    intro v
    have h0:valN d (x :: l)=l.foldl (fun v x=>v * d+x) (0 * d+x):=rfl
    rw [h0,ih (0 * d+x),List.foldl_cons,ih (v * d+x),List.length_cons,Nat.pow_succ,Nat.add_mul,Nat.mul_assoc,Nat.mul_comm d,Nat.zero_mul,Nat.zero_add]
    omega
theorem valN_cons (d x:Nat) (l:List Nat):valN d (x :: l)=x * d ^ l.length+valN d l:=by
  have h0:valN d (x :: l)=l.foldl (fun v x=>v * d+x) (0 * d+x):=rfl
  rw [h0,foldl_val,Nat.zero_mul,Nat.zero_add]
theorem val_lt (d:Nat) (l:List Nat) (h:∀ x ∈ l,x < d):valN d l < d ^ l.length:=by
  induction l with
  | nil=>simp [valN]
  | cons x l ih =>
    have h1:=ih (fun y hy=>h y (List.mem_cons_of_mem _ hy))
    have h2:=h x List.mem_cons_self
    rw [valN_cons,List.length_cons,Nat.pow_succ,Nat.mul_comm (d ^ l.length)]
    have h3:(x+1) * d ^ l.length≤d * d ^ l.length:=Nat.mul_le_mul_right _ h2
    rw [Nat.add_mul,Nat.one_mul] at h3
    omega
theorem less_val (d:Nat):∀ a b:List Nat,a.length=b.length→(∀ x ∈ a,x < d)→(∀ x ∈ b,x < d)→(lessN a b=true ↔ valN d a < valN d b)
  | [],[],_,_,_=>by simp [lessN]
  | [],b :: y,h,_,_=>by simp at h
  | a :: x,[],h,_,_=>by simp at h
  | a :: x,b :: y,h,ha,hb=>by
    have hl:x.length=y.length:=by simpa using h
    have ih:=less_val d x y hl (fun i hi=>ha i (List.mem_cons_of_mem _ hi)) (fun i hi=>hb i (List.mem_cons_of_mem _ hi))
    have h1:=val_lt d x (fun i hi=>ha i (List.mem_cons_of_mem _ hi))
    have h2:=val_lt d y (fun i hi=>hb i (List.mem_cons_of_mem _ hi))
    simp only [lessN,Bool.or_eq_true,decide_eq_true_eq,Bool.and_eq_true,beq_iff_eq]
    rw [ih,valN_cons,valN_cons,← hl]
    rw [← hl] at h2
    obtain ⟨p,hp⟩:∃ p,p=d ^ x.length:=⟨_,rfl⟩
    rw [← hp] at h1 h2 ⊢
    constructor
    · rintro (c|⟨c,c2⟩)
      · have h3:(a+1) * p≤b * p:=Nat.mul_le_mul_right _ c
        rw [Nat.add_mul,Nat.one_mul] at h3
        omega
      · rw [c];omega
    · intro c
      by_cases e:a=b
      · right;rw [e] at c;exact ⟨e,by omega⟩
      · left
        by_cases e2:a < b
        · exact e2
        · exfalso
          have h3:(b+1) * p≤a * p:=Nat.mul_le_mul_right _ (by omega)
          rw [Nat.add_mul,Nat.one_mul] at h3
          omega
theorem ahead_mono (d:Nat) {a b:Nat} (h:a≤b):aheadN d a≤aheadN d b:=by
  induction h with
  | refl=>exact Nat.le_refl _
  | step _ ih=>simp only [aheadN];omega
theorem num_lt_iff (d:Nat) (a b:List Nat) (ha:∀ x ∈ a,x < d) (hb:∀ x ∈ b,x < d):numN d a < numN d b ↔ (if a.length ≠ b.length then a.length < b.length else lessN a b=true):=by
  have h1:=val_lt d a ha
  have h2:=val_lt d b hb
  unfold numN
  by_cases e:a.length=b.length
  · rw [if_neg (by simpa using e),less_val d a b e ha hb,e];omega
  · rw [if_pos e]
    constructor
    · intro c
      rcases Nat.lt_or_ge a.length b.length with c1|c1
      · exact c1
      · exfalso
        have h3:=ahead_mono d (show b.length+1≤a.length by omega)
        have h4:aheadN d (b.length+1)=aheadN d b.length+d ^ b.length:=rfl
        omega
    · intro c
      have h3:=ahead_mono d (show a.length+1≤b.length by omega)
      have h4:aheadN d (a.length+1)=aheadN d a.length+d ^ a.length:=rfl
      omega
theorem bef_enc (d:Nat) (hd:d≤9) (a b:List Nat) (ha:∀ x ∈ a,x < d) (hb:∀ x ∈ b,x < d):befW (encW a) (encW b)=decide (numN d a < numN d b):=by
  have h:=num_lt_iff d a b ha hb
  unfold befW
  rw [encW_size,encW_size,encW_list,encW_list,less_enc a b (fun i hi=>by have:=ha i hi;omega) (fun i hi=>by have:=hb i hi;omega)]
  by_cases e:a.length=b.length
  · rw [if_neg (by simpa using e)] at h
    rw [if_neg (by omega),Bool.eq_iff_iff,decide_eq_true_iff]
    exact h.symm
  · rw [if_pos e] at h
    rw [if_pos (by omega),decide_eq_decide,h]
    omega
def termOf (t:Tb) (i:Nat):Option S79:=if (t.vs.getD i zeroF).f0 ≠ 0 then some ⟨(wordsA t.d t.n).getD i ByteArray.empty,t.vs.getD i zeroF⟩ else none
def segT (t:Tb) (lo m:Nat):List S79:=(List.range' lo m).filterMap (termOf t)
theorem termsN_seg (t:Tb) (n:Nat):termsN t n=segT t 0 n:=by
  induction n with
  | zero=>rfl
  | succ n ih =>
    rw [termsN_succ,ih]
    unfold segT
    rw [List.range'_1_concat,List.filterMap_append,Nat.zero_add]
    have e:List.filterMap (termOf t) [n]=(termOf t n).toList:=by cases h:termOf t n <;> simp [h]
    rw [e]
    unfold termStep termOf
    by_cases h:(t.vs.getD n zeroF).f0 ≠ 0
    · rw [if_pos h,if_pos h];rfl
    · rw [if_neg h,if_neg h];simp
theorem termsT_seg (t:Tb):termsT t=segT t 0 (wordsD t.d t.n).length:=termsN_seg t _
theorem seg_add (t:Tb) (lo m n:Nat):segT t lo (m+n)=segT t lo m ++ segT t (lo+m) n:=by
  unfold segT
  rw [← List.filterMap_append,← List.range'_append_1]
theorem seg_one (t:Tb) (lo:Nat):segT t lo 1=(termOf t lo).toList:=by
  unfold segT
  simp only [List.range'_one]
  cases h:termOf t lo <;> simp [h]
theorem seg_split (t:Tb) {k L:Nat} (h:k < L):segT t 0 L=segT t 0 k ++ ((termOf t k).toList ++ segT t (k+1) (L - (k+1))):=by
  conv=>lhs;rw [show L=k+(1+(L - (k+1))) by omega]
  rw [seg_add,seg_add,seg_one,Nat.zero_add]
theorem filterMap_same {α β:Type} {f g:α→Option β}:∀ {l:List α},(∀ x ∈ l,f x=g x)→l.filterMap f=l.filterMap g
  | [],_=>rfl
  | x :: l,h=>by
    rw [List.filterMap_cons,List.filterMap_cons,h x List.mem_cons_self,filterMap_same (fun y hy=>h y (List.mem_cons_of_mem _ hy))]
theorem seg_congr {t u:Tb} (hd:t.d=u.d) (hn:t.n=u.n) (lo m:Nat) (h:∀ i,lo≤i→i < lo+m→t.vs.getD i zeroF=u.vs.getD i zeroF):segT t lo m=segT u lo m:=by
  unfold segT
  apply filterMap_same
  intro i hi
  have:=List.mem_range'_1.1 hi
  unfold termOf
  rw [h i this.1 this.2,hd,hn]
theorem seg_zero (t:Tb) (lo m:Nat) (h:∀ i,lo≤i→i < lo+m→(t.vs.getD i zeroF).f0=0):segT t lo m=[]:=by
  unfold segT
  rw [List.filterMap_eq_nil_iff]
  intro i hi
  have:=List.mem_range'_1.1 hi
  unfold termOf
  rw [if_neg (by rw [h i this.1 this.2];simp)]
theorem mem_seg {t:Tb} {lo m:Nat} {x:S79} (h:x ∈ segT t lo m):∃ i,lo≤i∧i < lo+m∧termOf t i=some x:=by
  unfold segT at h
  obtain ⟨i,hi,e⟩:=List.mem_filterMap.1 h
  have:=List.mem_range'_1.1 hi
  exact ⟨i,this.1,this.2,e⟩
theorem termOf_word {t:Tb} {i:Nat} {x:S79} (hi:i < (wordsD t.d t.n).length) (h:termOf t i=some x):x.f0=encW (wordsD t.d t.n)[i]∧x.f1=t.vs.getD i zeroF∧x.f1.f0 ≠ 0:=by
  unfold termOf at h
  split at h
  · next c =>
    obtain rfl:=Option.some.inj h
    refine ⟨?_,rfl,c⟩
    show (wordsA t.d t.n).getD i ByteArray.empty=_
    unfold wordsA
    rw [List.getD_eq_getElem?_getD,List.getElem?_map,List.getElem?_eq_getElem hi];rfl
  · cases h
theorem word_digits {t:Tb} {i:Nat} (hi:i < (wordsD t.d t.n).length):isD t.d t.n (wordsD t.d t.n)[i]:=(wordsD_mem _ _ _).1 (List.getElem_mem hi)
theorem termOf_bef {t:Tb} (hs:Sz t.d t.n) {i:Nat} {x:S79} (hi:i < (wordsD t.d t.n).length) (h:termOf t i=some x) {l:List Nat} (hl:isD t.d t.n l):befW x.f0 (encW l)=decide (i < numN t.d l):=by
  rw [(termOf_word hi h).1,bef_enc t.d (by have:=hs.d3;omega) _ _ (word_digits hi).2 hl.2,wordsD_at]
theorem encW_inj {a b:List Nat} (ha:∀ x ∈ a,x < 100) (hb:∀ x ∈ b,x < 100) (h:encW a=encW b):a=b:=by
  rw [← decW_encW a ha,← decW_encW b hb,h]
/-- A fraction with the numerator 0 is 0. -/
theorem okF_zero {a:S77} (h:okF a) (h0:a.f0=0):a=zeroF:=by
  obtain ⟨h1,_,_,_,h5⟩:=h
  rw [h0,Int.gcd_zero_left] at h5
  exact S77.ext' h0 (by show a.f1=1;omega)
theorem plus_zero {a:S77} (h:okF a):plusM zeroF a=(a,true):=by
  obtain ⟨h1,h2,h3,h4,h5⟩:=h
  have e1:zeroF.f0 * a.f1+a.f0 * zeroF.f1=a.f0:=by show 0 * a.f1+a.f0 * 1=a.f0;omega
  have e2:zeroF.f1 * a.f1=a.f1:=by show 1 * a.f1=a.f1;omega
  have e3:byM a.f0 a.f1=1:=by unfold byM;rw [if_neg (by omega),h5];rfl
  unfold plusM redM
  rw [e1,e2,e3,Int.ediv_one,Int.ediv_one]
  rw [decide_eq_true (show okF ⟨a.f0,a.f1⟩ from ⟨h1,h2,h3,h4,h5⟩)]
/-- What l01Put does with terms. -/
def putAt (l:List S79) (w:ByteArray):Nat:=(l.takeWhile fun x=>befW x.f0 w).length
def putL (l:List S79) (w:ByteArray) (a:S77):Option (List S79) :=
  match l[putAt l w]? with
  | some x=>if x.f0=w then (if (plusM x.f1 a).2=true then some (l.take (putAt l w) ++ (if (plusM x.f1 a).1.f0=0 then [] else [⟨w,(plusM x.f1 a).1⟩]) ++ l.drop (putAt l w+1)) else none)
    else some (l.take (putAt l w) ++ (if a.f0=0 then [] else [⟨w,a⟩]) ++ l.drop (putAt l w))
  | none=>some (l.take (putAt l w) ++ (if a.f0=0 then [] else [⟨w,a⟩]) ++ l.drop (putAt l w))
theorem takeWhile_parts {α:Type} (p:α→Bool) (a b:List α) (ha:∀ x ∈ a,p x=true) (hb:∀ x ∈ b,p x=false):((a ++ b).takeWhile p)=a:=by
  induction a with
  | nil =>
    cases b with
    | nil=>rfl
    | cons y b=>rw [List.nil_append,List.takeWhile_cons_of_neg (by rw [hb y List.mem_cons_self];simp)]
  | cons x a ih=>rw [List.cons_append,List.takeWhile_cons_of_pos (ha x List.mem_cons_self),ih (fun y hy=>ha y (List.mem_cons_of_mem _ hy))]
theorem put_getD (t:Tb) (k:Nat) (hk:k < t.vs.length) (a:S77) (i:Nat):(t.put k a).vs.getD i zeroF=if i=k then a else t.vs.getD i zeroF:=by
  unfold Tb.put
  simp only [List.getD_eq_getElem?_getD,List.getElem?_set]
  by_cases e:k=i
  · rw [if_pos e,if_pos e.symm,if_pos (by omega),Option.getD_some]
  · rw [if_neg e,if_neg (fun h=>e h.symm)]
/-- A term put among the terms of a table is a value of the table put. -/
theorem putL_terms {t:Tb} (ht:t.Ok) {l:List Nat} (hl:isD t.d t.n l) {a:S77} (ha:okF a) :
    putL (termsT t) (encW l) a=if (plusM (t.val l) a).2=true then some (termsT (t.put (numN t.d l) (plusM (t.val l) a).1)) else none:=by
  have hk:numN t.d l < (wordsD t.d t.n).length:=numN_lt _ _ _ hl
  have hkv:=ht.lt hl
  obtain ⟨k,hke⟩:∃ k,k=numN t.d l:=⟨_,rfl⟩
  have hv:t.val l=t.vs.getD k zeroF:=by rw [hke];rfl
  have hwl:(wordsD t.d t.n)[numN t.d l]?=some l:=wordsD_is _ _ _ hl
  rw [hv]
  rw [← hke] at hk hkv hwl ⊢
  have hlw:(wordsD t.d t.n)[k]=l:=by rw [List.getElem?_eq_getElem hk] at hwl;exact Option.some.inj hwl
  have hA:∀ x ∈ segT t 0 k,befW x.f0 (encW l)=true:=by
    intro x hx
    obtain ⟨i,_,h2,e⟩:=mem_seg hx
    rw [termOf_bef ht.sz (by omega) e hl,← hke];simp;omega
  have hB:∀ x ∈ ((termOf t k).toList ++ segT t (k+1) ((wordsD t.d t.n).length - (k+1))),befW x.f0 (encW l)=false:=by
    intro x hx
    rcases List.mem_append.1 hx with hx|hx
    · have e:termOf t k=some x:=by simpa using hx
      rw [termOf_bef ht.sz hk e hl,← hke];simp
    · obtain ⟨i,h1,h2,e⟩:=mem_seg hx
      rw [termOf_bef ht.sz (by omega) e hl,← hke];simp;omega
  have hT:termsT t=segT t 0 k ++ ((termOf t k).toList ++ segT t (k+1) ((wordsD t.d t.n).length - (k+1))):=by rw [termsT_seg,seg_split t hk]
  have hat:putAt (termsT t) (encW l)=(segT t 0 k).length:=by unfold putAt;rw [hT,takeWhile_parts _ _ _ hA hB]
  have hP:∀ b:S77,termsT (t.put k b)=segT t 0 k ++ ((if b.f0=0 then [] else [⟨encW l,b⟩]) ++ segT t (k+1) ((wordsD t.d t.n).length - (k+1))):=by
    intro b
    have e0:termsT (t.put k b)=segT (t.put k b) 0 (wordsD t.d t.n).length:=termsT_seg _
    rw [e0,seg_split _ hk]
    have e1:segT (t.put k b) 0 k=segT t 0 k:=seg_congr (t:=t.put k b) (u:=t) rfl rfl _ _ (fun i _ h2=>by rw [put_getD t k hkv,if_neg (by omega)])
    have e2:segT (t.put k b) (k+1) ((wordsD t.d t.n).length - (k+1))=segT t (k+1) ((wordsD t.d t.n).length - (k+1)):=seg_congr (t:=t.put k b) (u:=t) rfl rfl _ _ (fun i h1 _=>by rw [put_getD t k hkv,if_neg (by omega)])
    have e3:(termOf (t.put k b) k).toList=if b.f0=0 then [] else [⟨encW l,b⟩]:=by
      unfold termOf
      rw [put_getD t k hkv,if_pos rfl]
      have e4:(wordsA (t.put k b).d (t.put k b).n).getD k ByteArray.empty=encW l:=by
        show (wordsA t.d t.n).getD k ByteArray.empty=encW l
        unfold wordsA
        rw [List.getD_eq_getElem?_getD,List.getElem?_map,hwl];rfl
      rw [e4]
      by_cases c:b.f0=0
      · rw [if_neg (by simpa using c),if_pos c];rfl
      · rw [if_pos c,if_neg c];rfl
    rw [e1,e2,e3]
  rw [hP]
  unfold putL
  rw [hat,hT,List.take_left]
  by_cases c:(t.vs.getD k zeroF).f0=0
  · -- no such term
    have e1:termOf t k=none:=by unfold termOf;rw [if_neg (by simpa using c)]
    have hz:t.vs.getD k zeroF=zeroF:=okF_zero (by have:=ht.val l;rwa [hv] at this) c
    rw [e1,hz,plus_zero ha,if_pos rfl]
    simp only [Option.toList_none,List.nil_append]
    rw [List.drop_left,List.getElem?_append_right (Nat.le_refl _),Nat.sub_self]
    cases hR:segT t (k+1) ((wordsD t.d t.n).length - (k+1)) with
    | nil=>simp only [List.getElem?_nil,List.append_assoc]
    | cons y ys =>
      simp only [List.getElem?_cons_zero]
      have hy:y ∈ segT t (k+1) ((wordsD t.d t.n).length - (k+1)):=by rw [hR];exact List.mem_cons_self
      obtain ⟨i,h1,h2,e⟩:=mem_seg hy
      have hne:y.f0 ≠ encW l:=by
        intro hc
        have hi:i < (wordsD t.d t.n).length:=by omega
        rw [(termOf_word hi e).1] at hc
        have hd3:=ht.sz.d3
        have:=encW_inj (fun x hx=>by have:=(word_digits hi).2 x hx;omega) (fun x hx=>by have:=hl.2 x hx;omega) hc
        have h3:=wordsD_at t.d t.n i hi
        rw [this,← hke] at h3
        omega
      rw [if_neg hne,List.append_assoc]
  · have e1:termOf t k=some ⟨encW l,t.vs.getD k zeroF⟩:=by
      unfold termOf
      rw [if_pos c]
      have e4:(wordsA t.d t.n).getD k ByteArray.empty=encW l:=by
        unfold wordsA
        rw [List.getD_eq_getElem?_getD,List.getElem?_map,hwl];rfl
      rw [e4]
    rw [e1]
    simp only [Option.toList_some,List.singleton_append]
    rw [List.getElem?_append_right (Nat.le_refl _),Nat.sub_self]
    simp only [List.getElem?_cons_zero,if_true]
    have e2:(segT t 0 k ++ (⟨encW l,t.vs.getD k zeroF⟩:S79) :: segT t (k+1) ((wordsD t.d t.n).length - (k+1))).drop ((segT t 0 k).length+1)=segT t (k+1) ((wordsD t.d t.n).length - (k+1)):=by
      rw [← List.drop_drop,List.drop_left];rfl
    rw [e2]
    by_cases cp:(plusM (t.vs.getD k zeroF) a).2=true
    · rw [if_pos cp,if_pos cp,List.append_assoc]
    · rw [if_neg cp,if_neg cp]
end Go.Proofs.Ytaiefdhenikiiaa.Base
namespace Go.Proofs.Ytaiefdhenikiiaa.Base
open Go.RowKit Go.Proofs.YtaiefdhenikiiaaW.PrintWords Go.Proofs.YtaiefdhenikiiaaW.PrintLast Go.Proofs.YtaiefdhenikiiaaW.PrintMore
set_option linter.unusedVariables false
set_option linter.unusedSimpArgs false
theorem zero_terms {d n:Nat}:termsT (zeroT d n)=[]:=by
  rw [termsT_seg]
  apply seg_zero
  intro i _ _
  show ((List.replicate (wordsD d n).length zeroF).getD i zeroF).f0=0
  rw [List.getD_eq_getElem?_getD,List.getElem?_replicate]
  split <;> rfl
theorem val_mem {t:Tb} (ht:t.Ok) {l:List Nat} (hl:isD t.d t.n l) (h:(t.val l).f0 ≠ 0):(⟨encW l,t.val l⟩:S79) ∈ termsT t:=by
  have hk:numN t.d l < (wordsD t.d t.n).length:=numN_lt _ _ _ hl
  rw [termsT_seg,seg_split t hk]
  refine List.mem_append_right _ (List.mem_append_left _ ?_)
  have hwl:(wordsD t.d t.n)[numN t.d l]?=some l:=wordsD_is _ _ _ hl
  have e4:(wordsA t.d t.n).getD (numN t.d l) ByteArray.empty=encW l:=by
    unfold wordsA
    rw [List.getD_eq_getElem?_getD,List.getElem?_map,hwl];rfl
  unfold termOf
  rw [show t.vs.getD (numN t.d l) zeroF=t.val l from rfl,if_pos h,e4]
  simp
end Go.Proofs.Ytaiefdhenikiiaa.Base
namespace Go.Proofs.Ytaiefdhenikiiaa.Base
open Go.RowKit Go.Proofs.YtaiefdhenikiiaaW.PrintWords Go.Proofs.YtaiefdhenikiiaaW.PrintLast Go.Proofs.YtaiefdhenikiiaaW.PrintMore
set_option linter.unusedVariables false
set_option linter.unusedSimpArgs false
def serR (T:Tb):Int × Int × List S79 × Int:=if T.bad=true then (0,0,[],3) else (T.d,T.n,termsT T,0)
theorem told_all {T p:Tb} (hT:Like T p) {r1 r2:Int} {r3:List S79} {r4:Int} (h:serR T=(r1,r2,r3,r4)):∀ (W:World) (g k:Nat),TabAt W g k T→Calls Try.prog 96 #[.pointer (some ⟨g,0,none⟩)] W (SerRes W r1 r2 r3 r4):=by
  intro W g k H
  have:=told_ W H hT.2.2
  unfold toldT at this
  unfold serR at h
  split at h
  · next c =>
    rw [if_pos c] at this
    simp only [Prod.mk.injEq] at h
    obtain ⟨rfl,rfl,rfl,rfl⟩:=h
    exact this
  · next c =>
    rw [if_neg c] at this
    simp only [Prod.mk.injEq] at h
    obtain ⟨rfl,rfl,rfl,rfl⟩:=h
    exact this
end Go.Proofs.Ytaiefdhenikiiaa.Base
namespace Go.Proofs.Ytaiefdhenikiiaa.Base
open Go.RowKit Go.Proofs.YtaiefdhenikiiaaW.PrintWords Go.Proofs.YtaiefdhenikiiaaW.PrintLast Go.Proofs.YtaiefdhenikiiaaW.PrintMore
set_option linter.unusedSimpArgs false
set_option linter.unusedVariables false
theorem eqSer_id (d n:Int) (l:List S79) (hl:l.length≤2000000):Ev (fun q=>qh2_.f q d n l d n l) true:=by
  unfold qh2_.f
  simp only [if_true]
  refine Ev.bind (eqT_same l hl) ?_
  simp only [if_true];exact Ev.now _
theorem marksSer_id (d n:Int) (l:List S79) (hl:l.length≤2000000):∃ l':List S79,Ev (fun q=>ql2_.f q d n l 1) (((1+3 * l.length:Nat):Int),l')∧Ev (fun q=>qf2_.f q d n l' 1) ((1+3 * l.length:Nat):Int):=by
  obtain ⟨l',_,h1,h2⟩:=marksT l hl
  refine ⟨l',?_,?_⟩
  · unfold ql2_.f;exact Ev.bind h1 (Ev.now _)
  · unfold qf2_.f
    refine Ev.bind h2 ?_
    simp only [show ¬ ((1+3 * l.length:Nat):Int) < 0 by omega,if_false]
    exact Ev.now _
theorem serR_len {T:Tb} {d n:Nat} (h:Like T (zeroT d n)) (hs:Sz d n):(serR T).2.2.1.length≤2000000:=by
  unfold serR
  split
  · simp
  · have h1:(termsT T).length≤(wordsD T.d T.n).length:=termsN_len T _
    have h2:(wordsD T.d T.n).length≤19683:=wordsD_small _ _ (by rw [h.1];exact hs.d3) (by rw [h.2.1];exact hs.n8)
    show (termsT T).length≤_
    omega
end Go.Proofs.Ytaiefdhenikiiaa.Base
namespace Go.Proofs.Ytaiefdhenikiiaa.Base
open Go.RowKit Go.Proofs.YtaiefdhenikiiaaW.PrintWords Go.Proofs.YtaiefdhenikiiaaW.PrintLast Go.Proofs.YtaiefdhenikiiaaW.PrintMore
set_option linter.unusedVariables false
set_option linter.unusedSimpArgs false
theorem mem_terms {t:Tb} {x:S79} (h:x ∈ termsT t):∃ l,isD t.d t.n l∧x.f0=encW l∧x.f1=t.val l∧x.f1.f0 ≠ 0:=by
  rw [termsT_seg] at h
  obtain ⟨i,_,h2,e⟩:=mem_seg h
  have hi:i < (wordsD t.d t.n).length:=by omega
  obtain ⟨e1,e2,e3⟩:=termOf_word hi e
  refine ⟨_,word_digits hi,e1,?_,e3⟩
  rw [e2];unfold Tb.val;rw [wordsD_at]
/-- The value of a word among terms. -/
def valL (l:List S79) (w:ByteArray):S77:=match l.find? (fun x=>decide (x.f0=w)) with|some x=>x.f1|none=>zeroF
theorem isD_small {d n:Nat} (hs:Sz d n) {l:List Nat} (h:isD d n l):∀ x ∈ l,x < 100:=fun x hx=>by have:=h.2 x hx;have:=hs.d3;omega
theorem valL_terms {t:Tb} (ht:t.Ok) {l:List Nat} (hl:isD t.d t.n l):valL (termsT t) (encW l)=t.val l:=by
  unfold valL
  cases hf:(termsT t).find? (fun x=>decide (x.f0=encW l)) with
  | none =>
    rw [List.find?_eq_none] at hf
    by_cases c:(t.val l).f0=0
    · exact (okF_zero (ht.val l) c).symm
    · exact absurd (decide_eq_true (rfl:encW l=encW l)) (hf _ (val_mem ht hl c))
  | some x =>
    have h1:=of_decide_eq_true (List.find?_some (p:=fun x:S79=>decide (x.f0=encW l)) hf)
    obtain ⟨l2,h2,h3,h4,_⟩:=mem_terms (List.mem_of_find?_eq_some hf)
    have:=encW_inj (isD_small ht.sz h2) (isD_small ht.sz hl) (h3.symm.trans h1)
    show x.f1=_
    rw [h4,this]
/-- One cut's product is added. -/
def cutO (a b s:S77):Option S77:=if a.f0=0 ∨ b.f0=0 then some s else if (timesM a b).2=true∧(plusM s (timesM a b).1).2=true then some (plusM s (timesM a b).1).1 else none
def cutsO (A B:Nat→S77):Nat→Option S77
  | 0=>some zeroF
  | n+1=>(cutsO A B n).bind (cutO (A n) (B n))
theorem cutO_ok {a b s s':S77} (hs:okF s) (h:cutO a b s=some s'):okF s':=by
  unfold cutO at h
  split at h
  · obtain rfl:=Option.some.inj h;exact hs
  · split at h
    · next c=>obtain rfl:=Option.some.inj h;exact plus_okF c.2
    · cases h
theorem cutsO_ok {A B:Nat→S77}:∀ {n:Nat} {s:S77},cutsO A B n=some s→okF s
  | 0,s,h=>by obtain rfl:=Option.some.inj h;exact zero_okF
  | n+1,s,h=>by
    obtain ⟨s0,h0,h1⟩:=Option.bind_eq_some_iff.1 h
    exact cutO_ok (cutsO_ok h0) h1
theorem Tb.put_self {t:Tb} {k:Nat} {a:S77} (hk:k < t.vs.length) (h:t.vs.getD k zeroF=a):t.put k a=t:=by
  unfold Tb.put
  rw [List.getD_eq_getElem?_getD,List.getElem?_eq_getElem hk,Option.getD_some] at h
  rw [← h,List.set_getElem_self]
theorem Tb.put_put (t:Tb) (k:Nat) (a b:S77):(t.put k a).put k b=t.put k b:=by unfold Tb.put;simp
theorem Tb.chk_true (t:Tb):t.chk true=t:=by unfold Tb.chk;simp
theorem addT_good (o:Tb) (l:List Nat) (a b:S77) (h1:(timesM a b).2=true) (h2:(plusM (o.val l) (timesM a b).1).2=true):o.addT l a b=o.put (numN o.d l) (plusM (o.val l) (timesM a b).1).1:=by
  unfold Tb.addT Tb.addW Tb.add
  rw [h1,Tb.chk_true]
  unfold chkF
  rw [if_pos rfl]
  unfold Tb.val at h2 ⊢
  rw [h2,Tb.chk_true,if_pos rfl]
theorem addT_bad (o:Tb) (l:List Nat) (a b:S77) (h:o.bad=true ∨ ¬ ((timesM a b).2=true∧(plusM (o.val l) (timesM a b).1).2=true)):(o.addT l a b).bad=true:=by
  unfold Tb.addT Tb.addW Tb.add Tb.chk Tb.put
  unfold Tb.val at h
  cases h1:(timesM a b).2 with
  | false=>simp
  | true =>
    rw [h1] at h
    unfold chkF
    simp only [if_true]
    rcases h with h|h
    · simp [h]
    · have:(plusM (o.vs.getD (numN o.d l) zeroF) (timesM a b).1).2=false:=by simpa using h
      rw [List.getD_eq_getElem?_getD] at this
      simp [this]
theorem cutT_bad (t u o:Tb) (l:List Nat) (i:Nat) (h:o.bad=true):(cutT t u l o i).bad=true:=by
  unfold cutT
  split
  · exact addT_bad _ _ _ _ (.inl h)
  · exact h
theorem wordT_bad (t u o:Tb) (l:List Nat) (h:o.bad=true):(wordT t u o l).bad=true:=by
  unfold wordT
  have:∀ n,(cutsT t u l o n).bad=true:=by
    intro n
    induction n with
    | zero=>exact h
    | succ n ih=>rw [cutsT_succ];exact cutT_bad _ _ _ _ _ ih
  exact this _
theorem wordsT_bad (t u:Tb) (ls:List (List Nat)):∀ o:Tb,o.bad=true→(wordsT t u o ls).bad=true:=by
  induction ls with
  | nil=>intro o h;exact h
  | cons l ls ih=>intro o h;exact ih _ (wordT_bad t u o l h)
/-- All cuts of a word. -/
theorem cuts_tab (t u o:Tb) (l:List Nat) (hk:numN o.d l < o.vs.length) (hz:o.val l=zeroF) (n:Nat) :
    match cutsO (fun i=>t.val (l.take i)) (fun i=>u.val (l.drop i)) n with
    | some s=>cutsT t u l o n=o.put (numN o.d l) s
    | none=>(cutsT t u l o n).bad=true:=by
  induction n with
  | zero=>exact (Tb.put_self hk hz).symm
  | succ n ih =>
    rw [cutsT_succ]
    simp only [cutsO]
    cases hc:cutsO (fun i=>t.val (l.take i)) (fun i=>u.val (l.drop i)) n with
    | none =>
      rw [hc] at ih
      simp only [Option.bind_none] at ih ⊢
      exact cutT_bad _ _ _ _ _ ih
    | some s =>
      rw [hc] at ih
      simp only [Option.bind_some] at ih ⊢
      rw [ih]
      have hd:(o.put (numN o.d l) s).d=o.d:=rfl
      have hv:(o.put (numN o.d l) s).val l=s:=by
        unfold Tb.val
        rw [hd,put_getD o _ hk,if_pos rfl]
      unfold cutO cutT
      by_cases c1:(t.val (l.take n)).f0=0 ∨ (u.val (l.drop n)).f0=0
      · rw [if_pos c1,if_neg (fun hh=>by rcases c1 with c1|c1;exact hh.1 c1;exact hh.2 c1)]
      · have c1':(t.val (l.take n)).f0 ≠ 0∧(u.val (l.drop n)).f0 ≠ 0:=⟨fun hh=>c1 (.inl hh),fun hh=>c1 (.inr hh)⟩
        rw [if_neg c1,if_pos c1']
        by_cases c2:(timesM (t.val (l.take n)) (u.val (l.drop n))).2=true∧(plusM s (timesM (t.val (l.take n)) (u.val (l.drop n))).1).2=true
        · rw [if_pos c2]
          show Tb.addT _ _ _ _=_
          rw [addT_good _ _ _ _ c2.1 (by rw [hv];exact c2.2),hv,hd,Tb.put_put]
        · rw [if_neg c2]
          exact addT_bad _ _ _ _ (.inr (by rw [hv];exact c2))
def wordO (t u:Tb) (l:List Nat):Option S77:=cutsO (fun i=>t.val (l.take i)) (fun i=>u.val (l.drop i)) (l.length+1)
/-- The product's terms,word by word. -/
def prodO (t u:Tb) (ls:List (List Nat)):Option (List S79)→Option (List S79):=fun acc=>ls.foldl (fun acc l=>acc.bind fun q=>(wordO t u l).map fun s=>q ++ (if s.f0=0 then [] else [⟨encW l,s⟩])) acc
theorem prodO_none (t u:Tb) (ls:List (List Nat)):prodO t u ls none=none:=by
  induction ls with
  | nil=>rfl
  | cons l ls ih=>exact ih
theorem prodO_append (t u:Tb) (a b:List (List Nat)) (q:Option (List S79)):prodO t u (a ++ b) q=prodO t u b (prodO t u a q):=by unfold prodO;rw [List.foldl_append]
theorem prod_tab (t u p:Tb) (hp:Sz p.d p.n) (hd:t.d=p.d):∀ m,m≤(wordsD p.d p.n).length →
    match prodO t u ((wordsD p.d p.n).take m) (some []) with
    | some q=>Like (wordsT t u (zeroT p.d p.n) ((wordsD p.d p.n).take m)) p∧(wordsT t u (zeroT p.d p.n) ((wordsD p.d p.n).take m)).bad=false∧q=segT (wordsT t u (zeroT p.d p.n) ((wordsD p.d p.n).take m)) 0 m∧∀ i,m≤i→(wordsT t u (zeroT p.d p.n) ((wordsD p.d p.n).take m)).vs.getD i zeroF=zeroF
    | none=>(wordsT t u (zeroT p.d p.n) ((wordsD p.d p.n).take m)).bad=true:=by
  intro m
  induction m with
  | zero =>
    intro _
    simp only [List.take_zero]
    refine ⟨⟨rfl,rfl,zeroT_ok hp⟩,rfl,rfl,fun i _=>?_⟩
    show (List.replicate _ zeroF).getD i zeroF=zeroF
    rw [List.getD_eq_getElem?_getD,List.getElem?_replicate]
    split <;> rfl
  | succ m ih =>
    intro hm
    have hlt:m < (wordsD p.d p.n).length:=hm
    have ih:=ih (by omega)
    rw [List.take_succ_eq_append_getElem hlt,prodO_append]
    have eW:wordsT t u (zeroT p.d p.n) ((wordsD p.d p.n).take m ++ [(wordsD p.d p.n)[m]])=wordT t u (wordsT t u (zeroT p.d p.n) ((wordsD p.d p.n).take m)) (wordsD p.d p.n)[m]:=by unfold wordsT;rw [List.foldl_append];rfl
    rw [eW]
    obtain ⟨O,hO⟩:∃ O,O=wordsT t u (zeroT p.d p.n) ((wordsD p.d p.n).take m):=⟨_,rfl⟩
    obtain ⟨l,hl⟩:∃ l,l=(wordsD p.d p.n)[m]:=⟨_,rfl⟩
    rw [← hO] at ih ⊢
    rw [← hl]
    cases hq:prodO t u ((wordsD p.d p.n).take m) (some []) with
    | none =>
      rw [hq] at ih
      rw [prodO_none]
      exact wordT_bad _ _ _ _ ih
    | some q =>
      rw [hq] at ih
      obtain ⟨hlk,hb,hqs,hz⟩:=ih
      have hlD:isD p.d p.n l:=by rw [hl];exact (wordsD_mem _ _ _).1 (List.getElem_mem hlt)
      have hnum:numN p.d l=m:=by rw [hl];exact wordsD_at _ _ _ hlt
      have hOd:O.d=p.d:=hlk.1
      have hOn:O.n=p.n:=hlk.2.1
      have hkO:numN O.d l < O.vs.length:=by rw [hOd,hnum,hlk.2.2.len,hOd,hOn];exact hlt
      have hv:O.val l=zeroF:=by unfold Tb.val;rw [hOd,hnum];exact hz m (Nat.le_refl _)
      have hc:=cuts_tab t u O l hkO hv (l.length+1)
      show match ((some q).bind fun q=>(wordO t u l).map fun s=>q ++ (if s.f0=0 then [] else [⟨encW l,s⟩])) with|some q=>_|none=>_
      simp only [Option.bind_some]
      unfold wordT
      cases hw:wordO t u l with
      | none =>
        unfold wordO at hw
        rw [hw] at hc
        exact hc
      | some s =>
        have hsok:=cutsO_ok hw
        unfold wordO at hw
        rw [hw] at hc
        simp only [Option.map_some]
        simp only at hc
        rw [hc,hOd,hnum]
        have hkm:m < O.vs.length:=by rw [hOd,hnum] at hkO;exact hkO
        refine ⟨⟨hlk.1,hlk.2.1,hlk.2.2.put _ hsok⟩,hb,?_,fun i hi=>?_⟩
        · rw [seg_add _ 0 m 1,seg_one,Nat.zero_add]
          rw [seg_congr (t:=O.put m s) (u:=O) rfl rfl 0 m (fun i _ h2=>by rw [put_getD O m hkm,if_neg (by omega)]),← hqs]
          congr 1
          unfold termOf
          rw [put_getD O m hkm,if_pos rfl]
          have e4:(wordsA (O.put m s).d (O.put m s).n).getD m ByteArray.empty=encW l:=by
            show (wordsA O.d O.n).getD m ByteArray.empty=encW l
            rw [hOd,hOn]
            unfold wordsA
            rw [List.getD_eq_getElem?_getD,List.getElem?_map,List.getElem?_eq_getElem hlt,hl];rfl
          rw [e4]
          by_cases c:s.f0=0
          · rw [if_pos c,if_neg (by simpa using c)];rfl
          · rw [if_neg c,if_pos c];rfl
        · rw [put_getD O m hkm,if_neg (by omega)]
          exact hz i (by omega)
/-- What a partial list of terms says of a table. -/
def outT (t:Tb):Option (List S79):=if t.bad=true then none else some (termsT t)
theorem times_terms (t u p:Tb) (hp:Sz p.d p.n) (ht:Like t p) (hbt:t.bad=false) (hbu:u.bad=false):prodO t u (wordsD p.d p.n) (some [])=outT (timesT t u):=by
  have h:=prod_tab t u p hp ht.1 _ (Nat.le_refl _)
  rw [List.take_length] at h
  have e:timesT t u=wordsT t u (zeroT p.d p.n) (wordsD p.d p.n):=by
    unfold timesT badT zeroT
    rw [hbt,hbu,ht.1,ht.2.1];rfl
  unfold outT
  rw [e]
  cases hq:prodO t u (wordsD p.d p.n) (some []) with
  | none=>rw [hq] at h;rw [if_pos h]
  | some q =>
    rw [hq] at h
    obtain ⟨h1,h2,h3,_⟩:=h
    rw [if_neg (by rw [h2];simp),termsT_seg,h1.1,h1.2.1]
    rw [h3]
end Go.Proofs.Ytaiefdhenikiiaa.Base
namespace Go.Proofs.Ytaiefdhenikiiaa.Base
open Go.RowKit Go.Proofs.YtaiefdhenikiiaaW.PrintWords Go.Proofs.YtaiefdhenikiiaaW.PrintLast Go.Proofs.YtaiefdhenikiiaaW.PrintMore
set_option linter.unusedVariables false
set_option linter.unusedSimpArgs false
theorem plus_zero_r {a:S77} (h:okF a):plusM a zeroF=(a,true):=by
  have:=plus_zero h
  unfold plusM at this ⊢
  rw [← this]
  congr 1
  · rw [Int.add_comm]
  · rw [Int.mul_comm]
theorem times_comm (a b:S77):timesM a b=timesM b a:=by unfold timesM;rw [Int.mul_comm a.f0,Int.mul_comm a.f1]
theorem times_zero {k:S77} (hk:okF k):timesM zeroF k=(zeroF,true):=by
  obtain ⟨h1,_⟩:=hk
  have e1:zeroF.f0 * k.f0=0:=by show 0 * k.f0=0;omega
  have e2:zeroF.f1 * k.f1=k.f1:=by show 1 * k.f1=k.f1;omega
  have e3:byM 0 k.f1=k.f1:=by unfold byM;rw [if_neg (by omega),Int.gcd_zero_left];omega
  unfold timesM redM
  rw [e1,e2,e3,Int.zero_ediv,Int.ediv_self (by omega)]
  rfl
theorem times_ne {a k:S77} (ha:okF a) (hk:okF k) (h1:a.f0 ≠ 0) (h2:k.f0 ≠ 0):(timesM a k).1.f0 ≠ 0:=by
  have hd:a.f1 * k.f1 ≠ 0:=Int.mul_ne_zero (by have:=ha.1;omega) (by have:=hk.1;omega)
  have hn:a.f0 * k.f0 ≠ 0:=Int.mul_ne_zero h1 h2
  show (a.f0 * k.f0) / byM (a.f0 * k.f0) (a.f1 * k.f1) ≠ 0
  intro hc
  have:=Int.ediv_mul_cancel (by_dvd (a.f0 * k.f0) (a.f1 * k.f1)).1
  rw [hc,Int.zero_mul] at this
  exact hn this.symm
theorem fill_bad (P:Nat→S77 × Bool) (o:Tb) (n:Nat):(fillT P o n).bad=(o.bad || (List.range n).any fun i=>!(P i).2):=by
  induction n with
  | zero=>simp [fillT]
  | succ n ih =>
    rw [fillT_succ,List.range_succ,List.any_append]
    show ((fillT P o n).bad || !(P n).2)=_
    rw [ih];simp [Bool.or_assoc]
theorem fill_vals (P:Nat→S77 × Bool) (o:Tb) (n:Nat) (hn:n≤o.vs.length) (i:Nat):(fillT P o n).vs.getD i zeroF=if i < n then chkF (P i).1 (P i).2 else o.vs.getD i zeroF:=by
  induction n with
  | zero=>rfl
  | succ n ih =>
    have ih:=ih (by omega)
    have hl:=(fillT_dn P o n).2.2
    rw [fillT_succ]
    have e:((fillT P o n).putF n (P n)).vs.getD i zeroF=if i=n then chkF (P n).1 (P n).2 else (fillT P o n).vs.getD i zeroF:=put_getD ((fillT P o n).chk (P n).2) n (by show n < (fillT P o n).vs.length;omega) _ i
    rw [e,ih]
    by_cases c:i=n
    · subst c;rw [if_pos rfl,if_pos (by omega)]
    · rw [if_neg c]
      by_cases c2:i < n
      · rw [if_pos c2,if_pos (by omega)]
      · rw [if_neg c2,if_neg (by omega)]
/-- Terms put one by one. -/
def addL (x ys:List S79):Option (List S79):=ys.foldl (fun acc y=>acc.bind fun q=>putL q y.f0 y.f1) (some x)
theorem addL_append (x a b:List S79):addL x (a ++ b)=b.foldl (fun acc y=>acc.bind fun q=>putL q y.f0 y.f1) (addL x a):=by unfold addL;rw [List.foldl_append]
def addN (t u:Tb):Nat→Tb
  | 0=>t
  | m+1=>(addN t u m).put m (plusM (t.vs.getD m zeroF) (u.vs.getD m zeroF)).1
theorem addN_len (t u:Tb):∀ m,(addN t u m).vs.length=t.vs.length
  | 0=>rfl
  | m+1=>by show ((addN t u m).vs.set m _).length=_;rw [List.length_set];exact addN_len t u m
theorem addN_dn (t u:Tb):∀ m,(addN t u m).d=t.d∧(addN t u m).n=t.n∧(addN t u m).bad=t.bad
  | 0=>⟨rfl,rfl,rfl⟩
  | m+1=>addN_dn t u m
theorem addN_vals (t u:Tb):∀ m,m≤t.vs.length→∀ i,(addN t u m).vs.getD i zeroF=if i < m then (plusM (t.vs.getD i zeroF) (u.vs.getD i zeroF)).1 else t.vs.getD i zeroF
  | 0,_,i=>rfl
  | m+1,hm,i=>by
    have ih:=addN_vals t u m (by omega) i
    show ((addN t u m).put m _).vs.getD i zeroF=_
    rw [put_getD _ m (by rw [addN_len];omega),ih]
    by_cases c:i=m
    · subst c;rw [if_pos rfl,if_pos (by omega)]
    · rw [if_neg c]
      by_cases c2:i < m
      · rw [if_pos c2,if_pos (by omega)]
      · rw [if_neg c2,if_neg (by omega)]
def okN (t u:Tb) (m:Nat):Bool:=(List.range m).all fun i=>(plusM (t.vs.getD i zeroF) (u.vs.getD i zeroF)).2
theorem okF_at {t:Tb} (h:t.Ok) (i:Nat):okF (t.vs.getD i zeroF):=by
  rw [List.getD_eq_getElem?_getD]
  cases hx:t.vs[i]? with
  | none=>exact zero_okF
  | some x=>exact h.fr x (List.mem_of_getElem? hx)
theorem add_loop (t u p:Tb) (hp:Sz p.d p.n) (ht:Like t p) (hu:Like u p):∀ m,m≤(wordsD p.d p.n).length →
    (okN t u m=true→(addN t u m).Ok)∧addL (termsT t) (segT u 0 m)=if okN t u m=true then some (termsT (addN t u m)) else none:=by
  intro m
  induction m with
  | zero=>intro _;exact ⟨fun _=>ht.2.2,rfl⟩
  | succ m ih =>
    intro hm
    obtain ⟨ih1,ih2⟩:=ih (by omega)
    have hlt:m < (wordsD p.d p.n).length:=hm
    have htl:t.vs.length=(wordsD p.d p.n).length:=by rw [ht.2.2.len,ht.1,ht.2.1]
    have eok:okN t u (m+1)=(okN t u m && (plusM (t.vs.getD m zeroF) (u.vs.getD m zeroF)).2):=by unfold okN;rw [List.range_succ,List.all_append];simp
    have hd:(addN t u m).d=p.d:=(addN_dn t u m).1.trans ht.1
    have hn:(addN t u m).n=p.n:=(addN_dn t u m).2.1.trans ht.2.1
    obtain ⟨l,hl⟩:∃ l,l=(wordsD p.d p.n)[m]:=⟨_,rfl⟩
    have hlD:isD p.d p.n l:=by rw [hl];exact (wordsD_mem _ _ _).1 (List.getElem_mem hlt)
    have hnum:numN p.d l=m:=by rw [hl];exact wordsD_at _ _ _ hlt
    have hv:(addN t u m).vs.getD m zeroF=t.vs.getD m zeroF:=by rw [addN_vals t u m (by omega),if_neg (by omega)]
    rw [eok]
    refine ⟨fun h=>?_,?_⟩
    · rw [Bool.and_eq_true] at h
      exact (ih1 h.1).put m (plus_okF h.2)
    · rw [seg_add u 0 m 1,seg_one,Nat.zero_add,addL_append,ih2]
      by_cases ho:okN t u m=true
      · rw [if_pos ho,ho,Bool.true_and]
        have hO:=ih1 ho
        by_cases c:(u.vs.getD m zeroF).f0=0
        · have e1:termOf u m=none:=by unfold termOf;rw [if_neg (by simpa using c)]
          have e2:u.vs.getD m zeroF=zeroF:=okF_zero (okF_at hu.2.2 m) c
          rw [e1,e2,plus_zero_r (okF_at ht.2.2 m),if_pos rfl]
          show some _=some _
          have e3:addN t u (m+1)=addN t u m:=by
            show (addN t u m).put m _=_
            rw [e2,plus_zero_r (okF_at ht.2.2 m)]
            exact Tb.put_self (by rw [addN_len];omega) hv
          rw [e3]
        · have e1:termOf u m=some ⟨encW l,u.vs.getD m zeroF⟩:=by
            unfold termOf
            rw [if_pos c]
            have e4:(wordsA u.d u.n).getD m ByteArray.empty=encW l:=by
              rw [hu.1,hu.2.1]
              unfold wordsA
              rw [List.getD_eq_getElem?_getD,List.getElem?_map,List.getElem?_eq_getElem hlt,hl];rfl
            rw [e4]
          rw [e1]
          show putL (termsT (addN t u m)) (encW l) (u.vs.getD m zeroF)=_
          have e5:(addN t u m).val l=t.vs.getD m zeroF:=by unfold Tb.val;rw [hd,hnum];exact hv
          rw [putL_terms hO (by rw [hd,hn];exact hlD) (okF_at hu.2.2 m),e5,hd,hnum]
          rfl
      · rw [if_neg ho]
        have:okN t u m=false:=by simpa using ho
        rw [this,Bool.false_and,if_neg (by simp)]
        cases termOf u m <;> rfl
theorem Tb.ext' {t u:Tb} (h1:t.d=u.d) (h2:t.n=u.n) (h3:t.bad=u.bad) (h4:t.vs.length=u.vs.length) (h5:∀ i,i < t.vs.length→t.vs.getD i zeroF=u.vs.getD i zeroF):t=u:=by
  obtain ⟨d,n,vs,b⟩:=t
  obtain ⟨d',n',vs',b'⟩:=u
  simp only at h1 h2 h3 h4 h5
  subst h1 h2 h3
  congr 1
  apply List.ext_getElem h4
  intro i hi hi'
  have:=h5 i hi
  rwa [List.getD_eq_getElem?_getD,List.getD_eq_getElem?_getD,List.getElem?_eq_getElem hi,List.getElem?_eq_getElem hi',Option.getD_some,Option.getD_some] at this
theorem add_terms (t u p:Tb) (hp:Sz p.d p.n) (ht:Like t p) (hu:Like u p) (hbt:t.bad=false) (hbu:u.bad=false):addL (termsT t) (termsT u)=outT (sumT t u):=by
  obtain ⟨h1,h2⟩:=add_loop t u p hp ht hu _ (Nat.le_refl _)
  have htl:t.vs.length=(wordsD p.d p.n).length:=by rw [ht.2.2.len,ht.1,ht.2.1]
  have eb:(sumT t u).bad=!okN t u (wordsD p.d p.n).length:=by
    unfold sumT
    rw [fill_bad,htl]
    show ((t.bad || u.bad) || _)=_
    rw [hbt,hbu]
    unfold okN sumP
    simp [List.all_eq_not_any_not]
  rw [termsT_seg u,hu.1,hu.2.1,h2]
  unfold outT
  rw [eb]
  by_cases ho:okN t u (wordsD p.d p.n).length=true
  · rw [if_pos ho,ho,if_neg (by simp)]
    congr 2
    apply Tb.ext'
    · rw [(addN_dn t u _).1,(sumT_dn t u).1]
    · rw [(addN_dn t u _).2.1,(sumT_dn t u).2]
    · rw [(addN_dn t u _).2.2,hbt,eb,ho];rfl
    · rw [addN_len,(sumT_ok ht.2.2).len,ht.2.2.len,(sumT_dn t u).1,(sumT_dn t u).2]
    · intro i hi
      rw [addN_len,htl] at hi
      rw [addN_vals t u _ (by omega),if_pos hi]
      unfold sumT
      rw [fill_vals _ _ _ (by show _≤(List.replicate (wordsD t.d t.n).length zeroF).length;rw [List.length_replicate,← ht.2.2.len];exact Nat.le_refl _),if_pos (by omega)]
      unfold sumP chkF
      have:=List.all_eq_true.1 ho i (List.mem_range.2 hi)
      rw [if_pos this]
  · have:okN t u (wordsD p.d p.n).length=false:=by simpa using ho
    rw [if_neg ho,this,if_pos (by simp)]
/-- Terms times a number. -/
def scaleL (k:S77) (ys:List S79):Option (List S79):=ys.foldl (fun acc y=>acc.bind fun q=>if (timesM k y.f1).2=true then some (q ++ [⟨y.f0,(timesM k y.f1).1⟩]) else none) (some [])
def okS (u:Tb) (k:S77) (m:Nat):Bool:=(List.range m).all fun i=>(timesM (u.vs.getD i zeroF) k).2
theorem scale_vals {u:Tb} (hu:u.Ok) (k:S77) (i:Nat) (hi:i < u.vs.length):(scaleT u k).vs.getD i zeroF=chkF (timesM (u.vs.getD i zeroF) k).1 (timesM (u.vs.getD i zeroF) k).2:=by
  unfold scaleT
  rw [fill_vals _ _ _ (by show _≤(List.replicate (wordsD u.d u.n).length zeroF).length;rw [List.length_replicate,← hu.len];exact Nat.le_refl _),if_pos hi]
  rfl
theorem scale_loop (u:Tb) (hu:u.Ok) (k:S77) (hk:okF k) (h0:k.f0 ≠ 0):∀ m,m≤u.vs.length →
    scaleL k (segT u 0 m)=if okS u k m=true then some (segT (scaleT u k) 0 m) else none:=by
  intro m
  induction m with
  | zero=>intro _;rfl
  | succ m ih =>
    intro hm
    have ih:=ih (by omega)
    have eok:okS u k (m+1)=(okS u k m && (timesM (u.vs.getD m zeroF) k).2):=by unfold okS;rw [List.range_succ,List.all_append];simp
    rw [eok,seg_add u 0 m 1,seg_one,Nat.zero_add,seg_add _ 0 m 1,seg_one,Nat.zero_add]
    unfold scaleL at ih ⊢
    rw [List.foldl_append,ih]
    by_cases ho:okS u k m=true
    · rw [if_pos ho,ho,Bool.true_and]
      have hv:=scale_vals hu k m (by omega)
      have ew:∀ x,termOf (scaleT u k) m=x ↔ (if ((scaleT u k).vs.getD m zeroF).f0 ≠ 0 then some (⟨(wordsA u.d u.n).getD m ByteArray.empty,(scaleT u k).vs.getD m zeroF⟩:S79) else none)=x:=by
        intro x
        unfold termOf
        rw [(scaleT_dn u k).1,(scaleT_dn u k).2]
      by_cases c:(u.vs.getD m zeroF).f0=0
      · have e2:u.vs.getD m zeroF=zeroF:=okF_zero (okF_at hu m) c
        have e1:termOf u m=none:=by unfold termOf;rw [if_neg (by simpa using c)]
        rw [e2,times_zero hk] at hv
        have e3:termOf (scaleT u k) m=none:=(ew _).2 (by rw [hv];rfl)
        rw [e1,e2,times_zero hk,e3]
        simp
      · have e1:termOf u m=some ⟨(wordsA u.d u.n).getD m ByteArray.empty,u.vs.getD m zeroF⟩:=by unfold termOf;rw [if_pos c]
        rw [e1,times_comm (u.vs.getD m zeroF) k]
        simp only [Option.toList_some,List.foldl_cons,List.foldl_nil,Option.bind_some]
        by_cases c2:(timesM k (u.vs.getD m zeroF)).2=true
        · rw [if_pos c2,if_pos c2]
          rw [times_comm,c2] at hv
          have e3:termOf (scaleT u k) m=some ⟨(wordsA u.d u.n).getD m ByteArray.empty,(timesM k (u.vs.getD m zeroF)).1⟩:=(ew _).2 (by
            rw [hv]
            show (if (timesM k (u.vs.getD m zeroF)).1.f0 ≠ 0 then _ else _)=_
            rw [if_pos (by rw [times_comm];exact times_ne (okF_at hu m) hk c h0)];rfl)
          rw [e3];rfl
        · rw [if_neg c2,if_neg c2]
    · have:okS u k m=false:=by simpa using ho
      rw [if_neg ho,this,Bool.false_and,if_neg (by simp)]
      cases termOf u m <;> rfl
theorem scale_terms (u:Tb) (hu:u.Ok) (hb:u.bad=false) (k:S77) (hk:okF k) (h0:k.f0 ≠ 0):scaleL k (termsT u)=outT (scaleT u k):=by
  have h:=scale_loop u hu k hk h0 _ (Nat.le_refl _)
  have eb:(scaleT u k).bad=!okS u k u.vs.length:=by
    unfold scaleT
    rw [fill_bad]
    show (u.bad || _)=_
    rw [hb]
    unfold okS scaleP
    simp [List.all_eq_not_any_not]
  rw [termsT_seg u,← hu.len,h]
  unfold outT
  rw [eb,termsT_seg,(scaleT_dn u k).1,(scaleT_dn u k).2,← hu.len]
  by_cases ho:okS u k u.vs.length=true
  · rw [if_pos ho,ho,if_neg (by simp)]
  · have:okS u k u.vs.length=false:=by simpa using ho
    rw [if_neg ho,this,if_pos (by simp)]
theorem sumT_bad {t u:Tb} (h:t.bad=true ∨ u.bad=true):(sumT t u).bad=true:=by
  unfold sumT
  rw [fill_bad]
  show ((t.bad || u.bad) || _)=true
  rcases h with h|h <;> simp [h]
theorem scaleT_bad {t:Tb} (a:S77) (h:t.bad=true):(scaleT t a).bad=true:=by
  unfold scaleT
  rw [fill_bad]
  show (t.bad || _)=true
  simp [h]
theorem timesT_bad {t u:Tb} (h:t.bad=true ∨ u.bad=true):(timesT t u).bad=true:=by
  unfold timesT
  apply wordsT_bad
  show (t.bad || u.bad)=true
  rcases h with h|h <;> simp [h]
/-- x and k times y together. -/
def addSL (x y:List S79) (k:S77):Option (List S79):=(scaleL k y).bind fun s=>addL x s
theorem addS_terms (t u p:Tb) (hp:Sz p.d p.n) (ht:Like t p) (hu:Like u p) (hbt:t.bad=false) (hbu:u.bad=false) (k:S77) (hk:okF k) (h0:k.f0 ≠ 0):addSL (termsT t) (termsT u) k=outT (sumT t (scaleT u k)):=by
  unfold addSL
  rw [scale_terms u hu.2.2 hbu k hk h0]
  cases hb:(scaleT u k).bad with
  | true =>
    unfold outT
    rw [hb,if_pos rfl,if_pos (sumT_bad (.inr hb))];rfl
  | false =>
    have e:outT (scaleT u k)=some (termsT (scaleT u k)):=by unfold outT;rw [if_neg (by rw [hb];simp)]
    rw [e,Option.bind_some]
    exact add_terms t (scaleT u k) p hp ht (scaleT_like k hu) hbt hb
end Go.Proofs.Ytaiefdhenikiiaa.Base
namespace Go.Proofs.Ytaiefdhenikiiaa.Base
open Go.RowKit Go.Proofs.YtaiefdhenikiiaaW.PrintWords Go.Proofs.YtaiefdhenikiiaaW.PrintLast Go.Proofs.YtaiefdhenikiiaaW.PrintMore
set_option linter.unusedVariables false
set_option linter.unusedSimpArgs false
theorem powersStep_bad (t:Tb) (first:Nat) (F:Nat→S77) (s:Tb × Tb) (k:Nat) (h:s.1.bad=true):(powersStep t first F s k).1.bad=true:=by
  unfold powersStep
  dsimp only
  split
  · exact sumT_bad (.inl h)
  · exact h
theorem powersS_bad (t p:Tb) (first:Nat) (F:Nat→S77) (m:Nat) (h:(powersS t p first F m).1.bad=true):∀ k,(powersS t p first F (m+k)).1.bad=true
  | 0=>h
  | k+1=>by
    rw [← Nat.add_assoc,powersS_succ]
    exact powersStep_bad _ _ _ _ _ (powersS_bad t p first F m h k)
/-- A bad step makes the powers bad. -/
theorem powers_bad {t p:Tb} {first:Nat} {F:Nat→S77} {m:Nat} (hm:m≤p.n+1) (h:(powersS t p first F m).1.bad=true):(powersT t p first F).bad=true:=by
  have:=powersS_bad t p first F m h (p.n+1 - m)
  rwa [show m+(p.n+1 - m)=p.n+1 by omega] at this
theorem powers_bad2 {t p:Tb} {first:Nat} {F:Nat→S77} {m:Nat} (hm:m < p.n+1) (h0:0 < m) (hf:first≤m) (h:(timesT (powersS t p first F m).2 t).bad=true):(powersT t p first F).bad=true:=by
  apply powers_bad (m:=m+1) (by omega)
  rw [powersS_succ]
  unfold powersStep
  dsimp only
  rw [if_pos hf,if_pos h0]
  exact sumT_bad (.inr (scaleT_bad _ h))
theorem outT_good {t:Tb} (h:t.bad=false):outT t=some (termsT t):=by unfold outT;rw [if_neg (by rw [h];simp)]
theorem outT_bad {t:Tb} (h:t.bad=true):outT t=none:=by unfold outT;rw [if_pos h]
/-- The unit's terms. -/
theorem one_seg (t:Tb) (k:Nat) (hk:k < (wordsD t.d t.n).length) (hz:∀ i,i ≠ k→t.vs.getD i zeroF=zeroF):termsT t=(termOf t k).toList:=by
  rw [termsT_seg,seg_split t hk,seg_zero t 0 k (fun i _ h2=>by rw [hz i (by omega)];rfl),seg_zero t (k+1) _ (fun i h1 _=>by rw [hz i (by omega)];rfl)]
  simp
theorem zero_getD (d n i:Nat):(zeroT d n).vs.getD i zeroF=zeroF:=by
  show (List.replicate _ zeroF).getD i zeroF=zeroF
  rw [List.getD_eq_getElem?_getD,List.getElem?_replicate]
  split <;> rfl
theorem put_terms {d n:Nat} (hs:Sz d n) {l:List Nat} (hl:isD d n l) {a:S77} (h0:a.f0 ≠ 0):termsT ((zeroT d n).put (numN d l) a)=[⟨encW l,a⟩]:=by
  have hk:numN d l < (wordsD d n).length:=numN_lt _ _ _ hl
  have hkv:numN d l < (zeroT d n).vs.length:=by show _ < (List.replicate _ zeroF).length;rw [List.length_replicate];exact hk
  rw [one_seg _ (numN d l) hk (fun i hi=>by rw [put_getD _ _ hkv,if_neg hi,zero_getD])]
  have e4:(wordsA d n).getD (numN d l) ByteArray.empty=encW l:=by
    unfold wordsA
    rw [List.getD_eq_getElem?_getD,List.getElem?_map,wordsD_is _ _ _ hl];rfl
  unfold termOf
  rw [put_getD _ _ hkv,if_pos rfl,if_pos h0]
  show ([⟨(wordsA d n).getD (numN d l) ByteArray.empty,a⟩]:List S79)=_
  rw [e4]
theorem isD_nil (d n:Nat):isD d n []:=⟨Nat.zero_le _,fun x hx=>by simp at hx⟩
theorem unit_terms {d n:Nat} (hs:Sz d n):termsT (unitT d n)=[⟨encW [],oneF⟩]:=by
  have h:=put_terms hs (isD_nil d n) (a:=oneF) (by decide)
  have e:numN d []=0:=rfl
  rw [e] at h
  exact h
end Go.Proofs.Ytaiefdhenikiiaa.Base
namespace Go.Proofs.Ytaiefdhenikiiaa.Base
open Go.RowKit Go.Proofs.YtaiefdhenikiiaaW.PrintWords Go.Proofs.YtaiefdhenikiiaaW.PrintLast Go.Proofs.YtaiefdhenikiiaaW.PrintMore
set_option linter.unusedVariables false
set_option linter.unusedSimpArgs false
def stepL (row:List Int):Nat→List S79
  | 0=>[]
  | i+1=>stepL row i ++ (if row.getD i 0=0 then [] else [⟨encW [i],wholeF (row.getD i 0)⟩])
theorem stepN_len (d n:Nat) (row:List Int):∀ m,(stepN d n row m).vs.length=(wordsD d n).length
  | 0=>by show (List.replicate _ zeroF).length=_;rw [List.length_replicate]
  | m+1=>by rw [stepN_succ];show (List.set _ _ _).length=_;rw [List.length_set];exact stepN_len d n row m
theorem stepN_d (d n:Nat) (row:List Int):∀ m,(stepN d n row m).d=d
  | 0=>rfl
  | m+1=>by rw [stepN_succ];exact stepN_d d n row m
theorem stepN_n (d n:Nat) (row:List Int):∀ m,(stepN d n row m).n=n
  | 0=>rfl
  | m+1=>by rw [stepN_succ];exact stepN_n d n row m
theorem stepN_good (d n:Nat) (row:List Int):∀ m,(stepN d n row m).bad=false
  | 0=>rfl
  | m+1=>by rw [stepN_succ];exact stepN_good d n row m
theorem stepN_getD {d n:Nat} (hl:d < (wordsD d n).length) (row:List Int):∀ m,m≤d→∀ i,(stepN d n row m).vs.getD i zeroF=if 1≤i∧i < 1+m then wholeF (row.getD (i - 1) 0) else zeroF
  | 0,_,i=>by rw [if_neg (by omega)];exact zero_getD d n i
  | m+1,h,i=>by
    rw [stepN_succ,put_getD _ _ (by rw [stepN_len];omega),stepN_getD hl row m (by omega)]
    by_cases c:i=1+m
    · subst c
      rw [if_pos rfl,if_pos (by omega),show 1+m - 1=m by omega]
    · rw [if_neg c]
      by_cases c2:1≤i∧i < 1+m
      · rw [if_pos c2,if_pos (by omega)]
      · rw [if_neg c2,if_neg (by omega)]
theorem step_seg {d n:Nat} (hs:Sz d n) (hn:1≤n) (row:List Int) {m:Nat} (hm:m≤d):∀ i,i≤m→segT (stepN d n row m) 0 (1+i)=stepL row i
  | 0,_=>by
    refine seg_zero _ _ _ (fun i _ h2=>?_)
    rw [stepN_getD (zero_len hs hn) row m hm,if_neg (by omega)];rfl
  | i+1,h=>by
    have e:1+(i+1)=(1+i)+1:=by omega
    rw [e,seg_add,step_seg hs hn row hm i (by omega),seg_one,Nat.zero_add]
    show _=stepL row i ++ _
    congr 1
    have hD:isD d n [i]:=⟨by simpa using hn,fun x hx=>by simp at hx;omega⟩
    have e4:(wordsA d n).getD (1+i) ByteArray.empty=encW [i]:=by
      unfold wordsA
      have h1:numN d [i]=1+i:=by simp [numN,aheadN,valN]
      rw [List.getD_eq_getElem?_getD,List.getElem?_map,← h1,wordsD_is _ _ _ hD];rfl
    unfold termOf
    rw [stepN_getD (zero_len hs hn) row m hm,if_pos (by omega:1≤1+i∧1+i < 1+m),show 1+i - 1=i by omega,stepN_d,stepN_n,e4]
    by_cases c:row.getD i 0=0
    · rw [if_pos c,if_neg (show ¬ (wholeF (row.getD i 0)).f0 ≠ 0 from fun h=>h c)];rfl
    · rw [if_neg c,if_pos (show (wholeF (row.getD i 0)).f0 ≠ 0 from c)];rfl
theorem step_terms {d n:Nat} (hs:Sz d n) (hn:1≤n) (row:List Int) (hm:row.length≤d):termsT (stepT d n row)=stepL row row.length:=by
  have hl:=zero_len hs hn
  unfold stepT
  rw [termsT_seg,stepN_d,stepN_n,show (wordsD d n).length=(1+row.length)+((wordsD d n).length - (1+row.length)) by omega,seg_add,step_seg hs hn row hm _ (Nat.le_refl _)]
  rw [seg_zero _ _ _ (fun i h1 _=>by rw [stepN_getD hl row _ hm,if_neg (by omega)];rfl),List.append_nil]
theorem stepT_like {d n:Nat} (hs:Sz d n) {row:List Int} (h:okRow row):Like (stepT d n row) (zeroT d n):=stepN_like hs h _
theorem stepL_len (row:List Int):∀ m,(stepL row m).length≤m
  | 0=>by simp [stepL]
  | m+1=>by
    have:=stepL_len row m
    rw [stepL,List.length_append]
    split <;> simp <;> omega
/-- The code of letters,a level and a path. -/
def codeP (D N:Int) (b:Bool):Int:=if b=true then (if lvlB D N=true then 0 else 2) else 1
theorem codeP_good {D N:Int} {b:Bool} (h:codeP D N b=0):b=true∧∃ d n:Nat,D=d∧N=n∧Sz d n∧1≤n:=by
  unfold codeP at h
  split at h
  · next h1 =>
    split at h
    · next h3 =>
      obtain ⟨d,n,rfl,rfl,hd,hn⟩:=lvl_nat h3
      exact ⟨h1,d,n,rfl,rfl,⟨hd.1,hd.2,by omega⟩,hn.1⟩
    · cases h
  · cases h
theorem okP {e:Int} {l:List (List Int)} (h:Go.Proofs.YtaiefdhenikiiaaC.isPath e l=true):l.length≤12∧∀ r ∈ l,(r.length:Int)=e∧okRow r:=by
  unfold Go.Proofs.YtaiefdhenikiiaaC.isPath at h
  simp only [Bool.and_eq_true,decide_eq_true_eq,List.all_eq_true] at h
  obtain ⟨⟨_,h3⟩,h4⟩:=h
  refine ⟨by omega,fun r hr=>?_⟩
  have h5:=h4 r hr
  unfold Go.Proofs.YtaiefdhenikiiaaC.rowOk Go.Proofs.YtaiefdhenikiiaaC.allUpTo at h5
  rw [show wrap64 (-100)=-100 from by unfold wrap64;omega] at h5
  simp only [Bool.and_eq_true,decide_eq_true_eq,List.all_eq_true] at h5
  exact ⟨h5.1,fun a ha=>by have:=h5.2 a ha;omega⟩
/-- The means. -/
def meanS (d n:Nat) (steps:List (List Int)):Tb:=steps.foldl (fun o row=>sumT o (stepSigT d n row)) (zeroT d n)
theorem meanS_succ (d n:Nat) (path:List (List Int)) {i:Nat} (h:i < path.length):meanS d n (path.take (i+1))=sumT (meanS d n (path.take i)) (stepSigT d n path[i]):=by
  rw [List.take_succ_eq_append_getElem h,meanS,List.foldl_append];rfl
theorem mean_from (d n:Nat) {t:Tb} (h:t.bad=true):∀ l:List (List Int),(l.foldl (fun o row=>sumT o (stepSigT d n row)) t).bad=true
  | []=>h
  | x :: l=>by rw [List.foldl_cons];exact mean_from d n (sumT_bad (Or.inl h)) l
theorem meanS_bad {d n:Nat} {path:List (List Int)} (i:Nat) (h:(meanS d n (path.take i)).bad=true):(meanS d n path).bad=true:=by
  have e:meanS d n path=(path.drop i).foldl (fun o row=>sumT o (stepSigT d n row)) (meanS d n (path.take i)):=by
    show path.foldl _ _=_
    conv=>lhs;rw [← List.take_append_drop i path,List.foldl_append]
    rfl
  rw [e];exact mean_from d n h _
theorem meanS_own {d n:Nat} {path:List (List Int)} {i:Nat} (h:i < path.length) (hb:(stepSigT d n path[i]).bad=true):(meanS d n path).bad=true :=
  meanS_bad (i+1) (by rw [meanS_succ d n path h];exact sumT_bad (Or.inr hb))
theorem meanS_like {d n:Nat} (hs:Sz d n) (path:List (List Int)):Like (meanS d n path) (zeroT d n):=by
  have key:∀ (l:List (List Int)) (o:Tb),Like o (zeroT d n)→Like (l.foldl (fun o row=>sumT o (stepSigT d n row)) o) (zeroT d n):=by
    intro l
    induction l with
    | nil=>intro o ho;exact ho
    | cons x l ih=>intro o ho;exact ih _ (sumT_like ho)
  exact key path _ ⟨rfl,rfl,zeroT_ok hs⟩
def partF (m:Nat):S77:=⟨1,m⟩
theorem partF_ok {m:Nat} (h1:1≤m) (h2:m≤12):okF (partF m):=by
  refine ⟨?_,?_,by show (-1000000000:Int)≤1;omega,by show (1:Int)≤1000000000;omega,by simp [partF]⟩
  · show (1:Int)≤(m:Int);omega
  · show (m:Int)≤1000000000;omega
def meanT (d n:Nat) (steps:List (List Int)):Tb:=scaleT (meanS d n steps) (partF steps.length)
theorem meanT_like {d n:Nat} (hs:Sz d n) (path:List (List Int)):Like (meanT d n path) (zeroT d n):=scaleT_like _ (meanS_like hs path)
theorem meanT_bad {d n:Nat} {path:List (List Int)} (h:(meanS d n path).bad=true):(meanT d n path).bad=true:=scaleT_bad _ h
theorem powT_bad {t p:Tb} {i:Nat} (h:(powT t p i).bad=true):∀ k,(powT t p (i+k)).bad=true
  | 0=>h
  | k+1=>timesT_bad (Or.inl (powT_bad h k))
def mnT (d n:Nat) (steps:List (List Int)) (k:Nat):Tb:={ powT (meanT d n steps) (zeroT d n) k with bad:=(powT (meanT d n steps) (zeroT d n) k).bad || (meanT d n steps).bad }
theorem mnT_like {d n:Nat} (hs:Sz d n) (path:List (List Int)) (k:Nat):Like (mnT d n path k) (zeroT d n):=by
  obtain ⟨h1,h2,h3⟩:=powT_like (t:=meanT d n path) (p:=zeroT d n) hs k
  exact ⟨h1,h2,⟨h3.sz,h3.len,h3.fr⟩⟩
/-- The code of a mean. -/
def codeM (D N:Int) (l:List (List Int)) (k:Int):Int:=if codeP D N (Go.Proofs.YtaiefdhenikiiaaC.isPath D l)=0 then (if l.length=0 then 2 else if 0≤k∧k≤8 then 0 else 2) else codeP D N (Go.Proofs.YtaiefdhenikiiaaC.isPath D l)
def meanR (D N:Int) (l:List (List Int)) (k:Int):Int × Int × List S79 × Int:=if codeM D N l k=0 then serR (mnT D.toNat N.toNat l k.toNat) else (0,0,[],codeM D N l k)
theorem codeM_good {D N:Int} {l:List (List Int)} {k:Int} (h:codeM D N l k=0):codeP D N (Go.Proofs.YtaiefdhenikiiaaC.isPath D l)=0∧l.length ≠ 0∧0≤k∧k≤8:=by
  unfold codeM at h
  split at h
  · next h1 =>
    split at h
    · cases h
    · next h2 =>
      split at h
      · next h3=>exact ⟨h1,h2,h3.1,h3.2⟩
      · cases h
  · next h1=>exact absurd h h1
theorem meanR_len (D N:Int) (l:List (List Int)) (k:Int):(meanR D N l k).2.2.1.length≤2000000:=by
  unfold meanR
  split
  · next c =>
    obtain ⟨h1,_⟩:=codeM_good c
    obtain ⟨_,d,n,rfl,rfl,hs,_⟩:=codeP_good h1
    rw [Int.toNat_natCast,Int.toNat_natCast]
    exact serR_len (mnT_like hs l _) hs
  · simp
end Go.Proofs.Ytaiefdhenikiiaa.Base
namespace Go.Proofs.Ytaiefdhenikiiaa.Base
open Go.RowKit Go.Proofs.YtaiefdhenikiiaaW.PrintWords Go.Proofs.YtaiefdhenikiiaaW.PrintLast Go.Proofs.YtaiefdhenikiiaaW.PrintMore
set_option linter.unusedVariables false
set_option linter.unusedSimpArgs false
theorem in_is2 (a b c:Int):qp1_.f a b c=some (decide (b≤a) && decide (a≤c)):=by
  unfold qp1_.f
  by_cases h:a ≥ b
  · have h':b≤a:=h
    rw [if_pos h,decide_eq_true h',Bool.true_and]
  · have h':¬ b≤a:=h
    rw [if_neg h,decide_eq_false h',Bool.false_and]
theorem pathRow (e:Int) (l:List (List Int)) (i:Int) (row:List Int) (hi0:0≤i) (hi1:i < l.length) (hrow:rd_L7 l i=row) (hl:row.length≤9223372036854775807) (b:Bool) (m:Nat):∀ j:Nat,j+m=row.length →
    Ev (fun k=>qp_.l0 k e l (wrap64 (i+1))) b →
    Ev (fun k=>qp_.l1 k e l i (j:Int)) ((row.drop j).all (fun x=>decide (-100≤x) && decide (x≤100)) && b):=by
  induction m with
  | zero =>
    intro j hj h
    rw [List.drop_eq_nil_of_le (by omega)]
    refine Ev.step (fun k=>?_) h
    simp only [qp_.l1]
    rw [if_pos hi0,if_pos hi1,hrow,if_neg (by omega)]
  | succ m ih =>
    intro j hj h
    have hlt:j < row.length:=by omega
    have e3:rd row (j:Int)=row[j]:=by simp [rd,List.getElem?_eq_getElem hlt]
    rw [List.drop_eq_getElem_cons hlt,List.all_cons]
    by_cases c:(decide (-100≤row[j]) && decide (row[j]≤100))=true
    · rw [c,Bool.true_and]
      refine Ev.step (fun k=>?_) (ih (j+1) (by omega) h)
      simp only [qp_.l1]
      rw [if_pos hi0,if_pos hi1,hrow,if_pos (by omega),if_pos (by omega),e3,in_is2,c,w64 (x:=(j:Int)+1) (by omega) (by omega)]
      simp
    · have c':(decide (-100≤row[j]) && decide (row[j]≤100))=false:=by simpa using c
      rw [c',Bool.false_and,Bool.false_and]
      refine Ev.step (f:=fun _=>some false) (fun k=>?_) (Ev.now _)
      simp only [qp_.l1]
      rw [if_pos hi0,if_pos hi1,hrow,if_pos (by omega),if_pos (by omega),e3,in_is2,c']
      simp
def rowP (e:Int) (row:List Int):Bool:=decide ((row.length:Int)=e) && row.all (fun x=>decide (-100≤x) && decide (x≤100))
theorem pathRows (e:Int) (l:List (List Int)) (hl:l.length≤9223372036854775806) (hr:∀ r ∈ l,r.length≤9223372036854775807) (m:Nat):∀ j:Nat,j+m=l.length →
    Ev (fun k=>qp_.l0 k e l (j:Int)) ((l.drop j).all (rowP e)):=by
  induction m with
  | zero =>
    intro j hj
    rw [List.drop_eq_nil_of_le (by omega)]
    refine Ev.step (f:=fun _=>some true) (fun k=>?_) (Ev.now _)
    simp only [qp_.l0];rw [if_neg (by omega)]
  | succ m ih =>
    intro j hj
    have hlt:j < l.length:=by omega
    have e3:rd_L7 l (j:Int)=l[j]:=by simp [rd_L7,List.getElem?_eq_getElem hlt]
    have e4:wrap64 ((j:Int)+1)=((j+1:Nat):Int):=w64 (x:=(j:Int)+1) (by omega) (by omega)
    rw [List.drop_eq_getElem_cons hlt,List.all_cons]
    by_cases c:(l[j].length:Int)=e
    · have:=pathRow e l (j:Int) l[j] (by omega) (by omega) e3 (hr _ (List.getElem_mem hlt)) _ l[j].length 0 (by omega) (by rw [e4];exact ih (j+1) (by omega))
      rw [List.drop_zero] at this
      have hh:rowP e l[j]=l[j].all (fun x=>decide (-100≤x) && decide (x≤100)):=by simp [rowP,c]
      rw [hh]
      refine Ev.step (fun k=>?_) this
      simp only [qp_.l0]
      rw [if_pos (by omega),if_pos (by omega),e3,if_pos c];rfl
    · have hh:rowP e l[j]=false:=by simp [rowP,c]
      rw [hh,Bool.false_and]
      refine Ev.step (f:=fun _=>some false) (fun k=>?_) (Ev.now _)
      simp only [qp_.l0]
      rw [if_pos (by omega),if_pos (by omega),e3,if_neg c]
theorem rowP_same (e:Int) (row:List Int):rowP e row=Go.Proofs.YtaiefdhenikiiaaC.rowOk e 100 row:=by
  unfold rowP Go.Proofs.YtaiefdhenikiiaaC.rowOk Go.Proofs.YtaiefdhenikiiaaC.allUpTo
  rw [show wrap64 (-100)=-100 from by unfold wrap64;omega]
/-- The reference's test for a path. -/
theorem is_path (e:Int) (l:List (List Int)) (hl:l.length≤9223372036854775806) (hr:∀ r ∈ l,r.length≤9223372036854775807):Ev (fun k=>qp_.f k e l) (Go.Proofs.YtaiefdhenikiiaaC.isPath e l):=by
  have hA:Ev (fun k=>qp_.l0 k e l 0) (l.all (rowP e)):=by have:=pathRows e l hl hr l.length 0 (by omega);rwa [List.drop_zero] at this
  have hall:l.all (rowP e)=l.all (Go.Proofs.YtaiefdhenikiiaaC.rowOk e 100):=by congr 1;funext r;exact rowP_same e r
  unfold Go.Proofs.YtaiefdhenikiiaaC.isPath Go.Proofs.YtaiefdhenikiiaaC.letters
  by_cases c1:(decide (1≤e) && decide (e≤3))=true
  · by_cases c3:(l.length:Int)≤12
    · rw [c1,decide_eq_true c3,← hall]
      refine Ev.congr (f:=fun k=>qp_.j0 k e l false) (fun k=>?_) (Ev.step (fun k=>?_) hA)
      · unfold qp_.f
        rw [in_is2,c1,show decide ((l.length:Int) > 12)=false from decide_eq_false (by omega)]
        simp
      · simp [qp_.j0]
    · rw [c1,decide_eq_false c3]
      refine Ev.congr (f:=fun k=>qp_.j0 k e l true) (fun k=>?_) (Ev.step (f:=fun _=>some false) (fun k=>?_) (Ev.now _))
      · unfold qp_.f
        rw [in_is2,c1,show decide ((l.length:Int) > 12)=true from decide_eq_true (by omega)]
        simp
      · simp [qp_.j0]
  · have c1':(decide (1≤e) && decide (e≤3))=false:=by simpa using c1
    rw [c1']
    refine Ev.congr (f:=fun k=>qp_.j0 k e l true) (fun k=>?_) (Ev.step (f:=fun _=>some false) (fun k=>?_) (Ev.now _))
    · unfold qp_.f
      rw [in_is2,c1']
      simp
    · simp [qp_.j0]
theorem pcode_impl (D N:Int) (l:List (List Int)):qz2_.f D N l=some (codeP D N (Go.Proofs.YtaiefdhenikiiaaC.isPath D l)):=by
  unfold qz2_.f qd3_.f codeP
  simp only [Option.bind_some,lvl_impl]
  cases Go.Proofs.YtaiefdhenikiiaaC.isPath D l <;> cases lvlB D N <;> simp
def smallP (l:List (List Int)):Prop:=l.length≤1048576∧∀ r ∈ l,r.length≤1048576
theorem pcode_loop (D N:Int) (ps:List (List (List Int))) (hl:ps.length≤1048576) (hs:∀ p ∈ ps,smallP p) (m:Nat):∀ j:Nat,j+m=ps.length →
    Ev (fun k=>qr1_.l0 k D N ps (j:Int)) (codeP D N ((ps.drop j).all (Go.Proofs.YtaiefdhenikiiaaC.isPath D))):=by
  induction m with
  | zero =>
    intro j hj
    refine Ev.step (f:=fun _=>some (codeP D N ((ps.drop j).all (Go.Proofs.YtaiefdhenikiiaaC.isPath D)))) (fun k=>?_) (Ev.now _)
    simp only [qr1_.l0]
    rw [if_neg (by omega),List.drop_eq_nil_of_le (by omega),lvl_spec]
    unfold codeP
    cases lvlB D N <;> simp
  | succ m ih =>
    intro j hj
    have hlt:j < ps.length:=by omega
    have e3:rd_L8 ps (j:Int)=ps[j]:=by simp [rd_L8,List.getElem?_eq_getElem hlt]
    have hp:=hs _ (List.getElem_mem hlt)
    rw [List.drop_eq_getElem_cons hlt,List.all_cons]
    refine Ev.step (f:=fun k=>(qp_.f k D ps[j]).bind fun t=>if t=true then qr1_.l0 k D N ps ((j+1:Nat):Int) else some 1) (fun k=>?_) (Ev.bind (is_path D ps[j] (by have:=hp.1;omega) (fun r hr=>by have:=hp.2 r hr;omega)) ?_)
    · simp only [qr1_.l0]
      rw [if_pos (by omega),if_pos (by omega),e3,w64 (x:=(j:Int)+1) (by omega) (by omega)]
      rfl
    · cases Go.Proofs.YtaiefdhenikiiaaC.isPath D ps[j] with
      | true=>simp only [if_true,Bool.true_and];exact ih (j+1) (by omega)
      | false=>simp only [Bool.false_eq_true,if_false,Bool.false_and];exact Ev.now _
theorem pcode_spec (D N:Int) (ps:List (List (List Int))) (hl:ps.length≤1048576) (hs:∀ p ∈ ps,smallP p):Ev (fun k=>qr1_.f k D N ps) (codeP D N (ps.all (Go.Proofs.YtaiefdhenikiiaaC.isPath D))):=by
  have:=pcode_loop D N ps hl hs ps.length 0 (by omega)
  rw [List.drop_zero] at this
  exact this
theorem sstep_loop (d:Nat) (hd:d≤3) (row:List Int) (hr:row.length=d) (D N:Int) (m:Nat):∀ j:Nat,j+m=d →
    Ev (fun k=>qa1_.l0 k (d:Int) row (j:Int) D N (stepL row j)) (D,N,stepL row d):=by
  induction m with
  | zero =>
    intro j hj
    obtain rfl:j=d:=by omega
    refine Ev.step (f:=fun _=>some (D,N,stepL row j)) (fun k=>?_) (Ev.now _)
    simp only [qa1_.l0]
    rw [if_neg (by omega)]
  | succ m ih =>
    intro j hj
    have e1:rd row (j:Int)=row.getD j 0:=by simp [rd]
    have hlen:=stepL_len row j
    have e4:(⟨strOfNums [wrap64 (48+(j:Int)) % 256],(⟨row.getD j 0,1⟩:S77)⟩:S79)=⟨encW [j],wholeF (row.getD j 0)⟩:=by
      rw [w64 (x:=48+(j:Int)) (by omega) (by omega),show (48+(j:Int)) % 256=((48+j:Nat):Int) by omega]
      show (⟨ltr j,_⟩:S79)=_
      rw [ltr_enc];rfl
    refine Ev.step (fun k=>?_) (ih (j+1) (by omega))
    simp only [qa1_.l0]
    rw [if_pos (by omega),if_pos (by omega),if_pos (by omega),e1,w64 (x:=(j:Int)+1) (by omega) (by omega)]
    by_cases c:row.getD j 0=0
    · rw [if_pos c]
      show _=qa1_.l0 k (d:Int) row ((j+1:Nat):Int) D N (stepL row j ++ _)
      rw [if_pos c,List.append_nil];rfl
    · rw [if_neg c]
      show _=qa1_.l0 k (d:Int) row ((j+1:Nat):Int) D N (stepL row j ++ _)
      rw [if_neg c]
      unfold qt2_.f
      simp only [Option.bind_some]
      rw [if_pos (by omega),e4];rfl
theorem sstep_is (d:Nat) (N:Int) (hd:d≤3) (row:List Int) (hr:row.length=d):Ev (fun k=>qa1_.f k (d:Int) N row) ((d:Int),N,stepL row row.length):=by
  unfold qa1_.f qu2_.f
  simp only [Option.bind_some]
  rw [hr]
  exact sstep_loop d hd row hr _ _ d 0 (by omega)
/-- A step as_ the reference tells it. -/
theorem stepSp (W:World) (d n:Nat) (hs:Sz d n) (hn:1≤n) {A:Option Addr} {c:Nat} {row:List Int} (hr:row.length=d) (hR:Kd.C (Kd.int .i64) W A row.length row) (hc:row.length≤c) :
    Calls Try.prog 103 #[.int .i64 (d:Int),.int .i64 (n:Int),.slice A row.length c] W fun e w'=>∃ v:Value,e=.returned (.agg #[.int .i64 (d:Int),.int .i64 (n:Int),v])∧TermsR w' W.heap.size v (termsT (stepT d n row))∧Below W.heap.size W w':=by
  obtain ⟨k,hk⟩:=(sstep_is d (n:Int) hs.d3 row hr).rounds
  rw [← step_terms hs hn row (by omega)] at hk
  exact qa1_.calls k _ _ _ _ _ _ _ _ _ hR hc hk
end Go.Proofs.Ytaiefdhenikiiaa.Base
namespace Go.Proofs.Ytaiefdhenikiiaa.Base
open Go.RowKit Go.Proofs.YtaiefdhenikiiaaW.PrintWords Go.Proofs.YtaiefdhenikiiaaW.PrintLast Go.Proofs.YtaiefdhenikiiaaW.PrintMore
set_option linter.unusedVariables false
set_option linter.unusedSimpArgs false
theorem sw2 (d:Nat) (hd:d≤3) (x1:Int) (ws:List ByteArray) (hws:∀ w ∈ ws,w.size≤20) (j:Nat) (hj:j < ws.length) (r:List ByteArray) (m:Nat):∀ (i:Nat) (acc:List ByteArray),i+m=d →
    acc.length+m≤8796093022208 →
    Ev (fun k=>qo_.l1 k (d:Int) x1 ws (acc ++ (List.range' i m).map (fun q=>ws.getD j ByteArray.empty ++ ltr q)) (wrap64 ((j:Int)+1))) r →
    Ev (fun k=>qo_.l2 k (d:Int) x1 ws acc (j:Int) (i:Int)) r:=by
  induction m with
  | zero =>
    intro i acc hi _ h
    refine Ev.step (fun k=>?_) h
    simp only [qo_.l2]
    rw [if_neg (by omega)]
    simp
  | succ m ih =>
    intro i acc hi hb h
    have hw:(ws.getD j ByteArray.empty).size≤20:=by
      rw [List.getD_eq_getElem?_getD,List.getElem?_eq_getElem hj]
      exact hws _ (List.getElem_mem hj)
    refine Ev.step (fun k=>?_) (ih (i+1) (acc ++ [ws.getD j ByteArray.empty ++ ltr i]) (by omega) (by simp;omega) ?_)
    · simp only [qo_.l2]
      have e1:wrap64 (48+(i:Int)) % 256=((48+i:Nat):Int):=by unfold wrap64;omega
      have e2:wrap64 ((i:Int)+1)=((i+1:Nat):Int):=by unfold wrap64;omega
      rw [if_pos (by omega),if_pos (by omega),if_pos (by omega)]
      simp only [Option.bind_some,e1,e2]
      have e3:rdOf ByteArray.empty ws (j:Int)=ws.getD j ByteArray.empty:=by simp [rdOf]
      rw [e3]
      have:=ltr_size i
      rw [if_pos (by show _+(ltr i).size≤_;omega),if_pos (by omega)]
      rfl
    · rw [List.append_assoc,List.range'_succ] at *
      exact h
theorem sw1 (d:Nat) (hd:d≤3) (x1:Int) (ws:List ByteArray) (hws:∀ w ∈ ws,w.size≤20) (hl:ws.length≤3486784401) (r:List ByteArray) (m:Nat):∀ (j:Nat) (acc:List ByteArray),j+m=ws.length →
    acc.length+m * d≤8796093022208 →
    Ev (fun k=>qo_.l0 k (d:Int) (wrap64 (x1 - 1)) (acc ++ nextW d (ws.drop j))) r →
    Ev (fun k=>qo_.l1 k (d:Int) x1 ws acc (j:Int)) r:=by
  induction m with
  | zero =>
    intro j acc hj _ h
    refine Ev.step (fun k=>?_) h
    simp only [qo_.l1]
    rw [if_neg (by omega),List.drop_eq_nil_of_le (by omega)]
    simp [nextW]
  | succ m ih =>
    intro j acc hj hb h
    have hlt:j < ws.length:=by omega
    have e2:wrap64 ((j:Int)+1)=((j+1:Nat):Int):=by unfold wrap64;omega
    rw [Nat.add_mul] at hb
    have h2:=sw2 d hd x1 ws hws j hlt r d 0 acc (by omega) (by omega) (by
      rw [e2]
      refine ih (j+1) _ (by omega) (by simp;omega) ?_
      rw [List.append_assoc]
      have:List.map (fun q=>ws.getD j ByteArray.empty ++ ltr q) (List.range' 0 d) ++ nextW d (ws.drop (j+1))=nextW d (ws.drop j):=by
        rw [List.drop_eq_getElem_cons hlt]
        simp only [nextW,List.flatMap_cons,List.range_eq_range']
        rw [List.getD_eq_getElem?_getD,List.getElem?_eq_getElem hlt];rfl
      rw [this]
      exact h)
    refine Ev.step (fun k=>?_) h2
    simp only [qo_.l1]
    rw [if_pos (by omega)]
    rfl
theorem sw0 (d:Nat) (hd:d≤3) (n:Nat):∀ m:Nat,m+n≤20→Ev (fun k=>qo_.l0 k (d:Int) (n:Int) (wordsL d m)) (wordsL d (m+n)):=by
  induction n with
  | zero =>
    intro m _
    refine Ev.step (f:=fun _=>some (wordsL d m)) (fun k=>?_) (Ev.now _)
    simp only [qo_.l0]
    rw [if_neg (by omega)]
  | succ n ih =>
    intro m hm
    have hb:=wordsL_bound (d:=d) (n:=m) hd (by omega)
    have h1:=sw1 d hd ((n+1:Nat):Int) (wordsL d m) (fun w hw=>by rw [wordsL_size d m w hw];omega) hb (wordsL d (m+(n+1))) (wordsL d m).length 0 [] (by omega)
      (by have:(wordsL d m).length * d≤(wordsL d m).length * 3:=Nat.mul_le_mul_left _ hd
          simp;omega) (by
      have e:wrap64 (((n+1:Nat):Int) - 1)=(n:Int):=by unfold wrap64;omega
      rw [e]
      have:=ih (m+1) (by omega)
      simp only [List.nil_append,List.drop_zero]
      rw [show m+1+n=m+(n+1) by omega] at this
      exact this)
    refine Ev.step (fun k=>?_) h1
    simp only [qo_.l0]
    rw [if_pos (by omega)]
    rfl
/-- The reference's words. -/
theorem spec_words (d n:Nat) (hd:d≤3) (hn:n≤20):Ev (fun k=>qo_.f k (d:Int) (n:Int)) (wordsL d n):=by
  have:=sw0 d hd n 0 (by omega)
  rw [Nat.zero_add] at this
  exact this
/-- All words of less than n letters. -/
def wordsU (d:Nat):Nat→List (List Nat)
  | 0=>[]
  | n+1=>wordsU d n ++ wordsN d n
theorem wordsU_D (d:Nat):∀ n,wordsU d (n+1)=wordsD d n
  | 0=>rfl
  | n+1=>by show wordsU d (n+1) ++ wordsN d (n+1)=wordsD d n ++ wordsN d (n+1);rw [wordsU_D d n]
theorem wordsU_le (d:Nat) {a b:Nat} (h:a≤b):∃ r,wordsU d b=wordsU d a ++ r:=by
  induction h with
  | refl=>exact ⟨[],by simp⟩
  | step _ ih =>
    obtain ⟨r,hr⟩:=ih
    exact ⟨r ++ wordsN d _,by show wordsU d _ ++ wordsN d _=_;rw [hr,List.append_assoc]⟩
theorem wordsN_isD {d n m:Nat} (h:m≤n) {l:List Nat} (hl:l ∈ wordsN d m):isD d n l:=by
  obtain ⟨h1,h2⟩:=wordsN_lt d m l hl
  exact ⟨by omega,h2⟩
theorem wordsN_small (d m:Nat) (hd:d≤3) (hm:m≤8):(wordsN d m).length≤6561:=by
  rw [wordsN_len]
  have h1:d ^ m≤3 ^ m:=Nat.pow_le_pow_left hd m
  have h2:3 ^ m≤3 ^ 8:=Nat.pow_le_pow_right (by omega) hm
  omega
theorem prodO_len (t u:Tb) (ls:List (List Nat)):∀ (q r:List S79),prodO t u ls (some q)=some r→r.length≤q.length+ls.length:=by
  induction ls with
  | nil=>intro q r h;obtain rfl:=Option.some.inj h;simp
  | cons l ls ih =>
    intro q r h
    have h:prodO t u ls ((wordO t u l).map fun s=>q ++ (if s.f0=0 then [] else [⟨encW l,s⟩]))=some r:=h
    cases hw:wordO t u l with
    | none=>rw [hw,Option.map_none,prodO_none] at h;cases h
    | some s =>
      rw [hw,Option.map_some] at h
      have:=ih _ _ h
      rw [List.length_append] at this
      have h2:(if s.f0=0 then ([]:List S79) else [⟨encW l,s⟩]).length≤1:=by split <;> simp
      rw [List.length_cons];omega
theorem prodO_snoc (t u:Tb) (a:List (List Nat)) (l:List Nat) {q:List S79} (h:prodO t u a (some [])=some q) {s:S77} (hs:wordO t u l=some s) :
    prodO t u (a ++ [l]) (some [])=some (q ++ (if s.f0=0 then [] else [⟨encW l,s⟩])):=by
  rw [prodO_append,h]
  show (wordO t u l).map _=_
  rw [hs];rfl
theorem prodO_fail (t u:Tb) (a b:List (List Nat)) (l:List Nat) (hs:wordO t u l=none):prodO t u (a ++ l :: b) (some [])=none:=by
  rw [prodO_append]
  cases prodO t u a (some []) with
  | none=>exact prodO_none _ _ _
  | some q =>
    show prodO t u b ((wordO t u l).map _)=none
    rw [hs];exact prodO_none _ _ _
theorem cutsO_fail {A B:Nat→S77} {j n:Nat} (h:j≤n) (hn:cutsO A B j=none):cutsO A B n=none:=by
  induction h with
  | refl=>exact hn
  | step _ ih=>show (cutsO A B _).bind _=none;rw [ih];rfl
theorem splus_bad (s:S77):Ev (fun k=>qq2_.f k s.f0 s.f1 0 0) (0,0,false):=by
  have e1:wrap64 (s.f1 * 0)=0:=by rw [Int.mul_zero];exact w64 (by omega) (by omega)
  refine Ev.congr (fun k=>?_) (Ev.now ((0:Int),(0:Int),false))
  unfold qq2_.f
  rw [e1]
  unfold qn1_.f
  rw [if_pos rfl];rfl
end Go.Proofs.Ytaiefdhenikiiaa.Base
namespace Go.Proofs.Ytaiefdhenikiiaa.Base
open Go.RowKit Go.Proofs.YtaiefdhenikiiaaW.PrintWords Go.Proofs.YtaiefdhenikiiaaW.PrintLast Go.Proofs.YtaiefdhenikiiaaW.PrintMore
set_option linter.unusedVariables false
set_option linter.unusedSimpArgs false
def tellL:Option (List S79)→List S79 × Bool
  | some r=>(r,true)
  | none=>([],false)
def okL (l:List S79):Prop:=∀ x ∈ l,okF x.f1
theorem okL_nil:okL []:=fun x hx=>by cases hx
theorem okL_snoc {l:List S79} {x:S79} (h:okL l) (hx:okF x.f1):okL (l ++ [x]):=fun y hy=>by
  rcases List.mem_append.1 hy with h1|h1
  · exact h y h1
  · obtain rfl:=List.mem_singleton.1 h1;exact hx
theorem putL_ok {l r:List S79} {w:ByteArray} {a:S77} (hl:okL l) (ha:okF a) (h:putL l w a=some r):okL r∧r.length≤l.length+1:=by
  have one:∀ b:S77,okF b→okL (if b.f0=0 then [] else [⟨w,b⟩])∧(if b.f0=0 then ([]:List S79) else [⟨w,b⟩]).length≤1:=fun b hb=>by
    split
    · exact ⟨okL_nil,by simp⟩
    · exact ⟨fun y hy=>by obtain rfl:=List.mem_singleton.1 hy;exact hb,by simp⟩
  have all:∀ (i j:Nat) (b:S77),okF b→i≤j→okL (l.take i ++ (if b.f0=0 then [] else [⟨w,b⟩]) ++ l.drop j)∧(l.take i ++ (if b.f0=0 then ([]:List S79) else [⟨w,b⟩]) ++ l.drop j).length≤l.length+1:=fun i j b hb hij=>by
    obtain ⟨o1,o2⟩:=one b hb
    refine ⟨fun y hy=>?_,?_⟩
    · rcases List.mem_append.1 hy with h1|h1
      · rcases List.mem_append.1 h1 with h2|h2
        · exact hl y (List.mem_of_mem_take h2)
        · exact o1 y h2
      · exact hl y (List.mem_of_mem_drop h1)
    · rw [List.length_append,List.length_append,List.length_take,List.length_drop];omega
  unfold putL at h
  cases hy:l[putAt l w]? with
  | none =>
    rw [hy] at h
    obtain rfl:=Option.some.inj h
    exact all _ _ a ha (Nat.le_refl _)
  | some y =>
    rw [hy] at h
    simp only at h
    split at h
    · split at h
      · next c =>
        obtain rfl:=Option.some.inj h
        exact all _ _ _ (plus_okF c) (Nat.le_succ _)
      · cases h
    · obtain rfl:=Option.some.inj h
      exact all _ _ a ha (Nat.le_refl _)
theorem scaleL_step {k:S77} {y:List S79} {i:Nat} (h:i < y.length):scaleL k (y.take (i+1))=(scaleL k (y.take i)).bind fun q=>if (timesM k y[i].f1).2=true then some (q ++ [⟨y[i].f0,(timesM k y[i].f1).1⟩]) else none:=by
  unfold scaleL
  rw [List.take_succ_eq_append_getElem h,List.foldl_append];rfl
theorem scaleL_none (k:S77) (a b:List S79) (h:scaleL k a=none):scaleL k (a ++ b)=none:=by
  unfold scaleL at h ⊢
  rw [List.foldl_append,h]
  induction b with
  | nil=>rfl
  | cons x b ih=>exact ih
theorem scaleL_ok {k:S77} (y:List S79):∀ i,i≤y.length→∀ q,scaleL k (y.take i)=some q→okL q∧q.length=i:=by
  intro i
  induction i with
  | zero=>intro _ q h;rw [List.take_zero] at h;obtain rfl:=Option.some.inj h;exact ⟨okL_nil,rfl⟩
  | succ i ih =>
    intro hi q h
    rw [scaleL_step (by omega)] at h
    cases hq:scaleL k (y.take i) with
    | none=>rw [hq] at h;cases h
    | some p =>
      rw [hq] at h
      obtain ⟨h1,h2⟩:=ih (by omega) p hq
      simp only [Option.bind_some] at h
      split at h
      · next c =>
        obtain rfl:=Option.some.inj h
        exact ⟨okL_snoc h1 (times_okF c),by rw [List.length_append,List.length_singleton];omega⟩
      · cases h
theorem addL_step {x s:List S79} {i:Nat} (h:i < s.length):addL x (s.take (i+1))=(addL x (s.take i)).bind fun q=>putL q s[i].f0 s[i].f1:=by
  unfold addL
  rw [List.take_succ_eq_append_getElem h,List.foldl_append];rfl
theorem addL_none (x a b:List S79) (h:addL x a=none):addL x (a ++ b)=none:=by
  unfold addL at h ⊢
  rw [List.foldl_append,h]
  induction b with
  | nil=>rfl
  | cons y b ih=>exact ih
theorem addL_ok {x s:List S79} (hx:okL x) (hs:okL s):∀ i,i≤s.length→∀ q,addL x (s.take i)=some q→okL q∧q.length≤x.length+i:=by
  intro i
  induction i with
  | zero=>intro _ q h;rw [List.take_zero] at h;obtain rfl:=Option.some.inj h;exact ⟨hx,Nat.le_refl _⟩
  | succ i ih =>
    intro hi q h
    rw [addL_step (by omega)] at h
    cases hq:addL x (s.take i) with
    | none=>rw [hq] at h;cases h
    | some p =>
      rw [hq] at h
      obtain ⟨h1,h2⟩:=ih (by omega) p hq
      obtain ⟨h3,h4⟩:=putL_ok h1 (hs _ (List.getElem_mem (by omega))) h
      exact ⟨h3,by omega⟩
end Go.Proofs.Ytaiefdhenikiiaa.Base
namespace Go.Proofs.Ytaiefdhenikiiaa.Base
open Go.RowKit Go.Proofs.YtaiefdhenikiiaaW.PrintWords Go.Proofs.YtaiefdhenikiiaaW.PrintLast Go.Proofs.YtaiefdhenikiiaaW.PrintMore
set_option linter.unusedVariables false
set_option linter.unusedSimpArgs false
/-- A series and a word of whether all fits are handed back. -/
def OkRes (w:World) (d n:Int) (l:List S79) (b:Bool) (e:Ending) (w':World):Prop:=∃ v:Value,e=.returned (.tuple #[.agg #[.int .i64 d,.int .i64 n,v],.bool b])∧TermsR w' w.heap.size v l∧Below w.heap.size w w'
/-- The terms of a table,if it is not bad. -/
def OutR (w:World) (d n:Int) (o:Option (List S79)):Ending→World→Prop:=match o with
  | none=>OkRes w 0 0 [] false
  | some l=>OkRes w d n l true
/-- Terms in memory. -/
structure TmsC (W:World) (A:Option Addr) (c:Nat) (l:List S79):Prop where
  row:Kd.C k79 W A l.length l
  cap:l.length≤c
  len:l.length≤1048576
theorem TmsC.below {W W':World} {A:Option Addr} {c:Nat} {l:List S79} (H:TmsC W A c l) (hb:Below W.heap.size W W'):TmsC W' A c l:=⟨Kd.qw1_ H.row hb,H.cap,H.len⟩
theorem TmsC.of {W:World} {B c m:Nat} {A:Option Addr} {l:List S79} (h:TermsR W B (.slice A m c) l) (hl:l.length≤1048576):TmsC W A c l∧m=l.length:=by
  obtain ⟨h1,h2,h3⟩:=Kd.qa3_ h
  subst h1
  exact ⟨⟨h3,h2,hl⟩,rfl⟩
theorem valL_hit {x:S79} {l:List S79} {s:ByteArray} (h:x.f0=s):valL (x :: l) s=x.f1:=by unfold valL;rw [List.find?_cons_of_pos (by simpa using h)]
theorem valL_miss {x:S79} {l:List S79} {s:ByteArray} (h:¬ x.f0=s):valL (x :: l) s=valL l s:=by unfold valL;rw [List.find?_cons_of_neg (by simpa using h)]
set_option maxHeartbeats 8000000 in
set_option maxRecDepth 100000 in
theorem valX (w:World) (D N:Int) {A:Option Addr} {c:Nat} {lt:List S79} (H:TmsC w A c lt) (s:ByteArray) (a:S77) (hv:valL lt s=a) :
    Calls Try.prog 186 #[.agg #[.int .i64 D,.int .i64 N,.slice A lt.length c],.string s] w fun e w'=>e=.returned (.agg #[.int .i64 a.f0,.int .i64 a.f1])∧w'=(w.alloc (.cells #[.int .i64 D,.int .i64 N,.slice A lt.length c] 38)).alloc (.cells #[.int .i64 a.f0,.int .i64 a.f1] 77):=by
  have hu:=Try.underlying38
  have hu2:=Try.underlying79
  have hu3:=Try.underlying77
  have HR:=Aside0.mk H
  clear H
  go_enter Try.func186,Try.ntmps186
  go_wp2
  go_loopg [5] lt.length (fun gg v5 wr=>∃ j:Nat,j≤lt.length∧lt.length - j≤gg∧v5=.int .i64 j∧Aside0 (valL (lt.drop j) s=a)∧wr=(w.alloc (.cells #[.int .i64 D,.int .i64 N,.slice A lt.length c] 38)).alloc (.cells #[.int .i64 0,.int .i64 0] 77))
  case atStart=>exact ⟨0,Nat.zero_le _,by omega,rfl,⟨by rw [List.drop_zero];exact hv⟩,rfl⟩
  case round =>
    clear hv
    obtain ⟨j,hj,hg,rfl,HV,rfl⟩:=hrel
    by_cases hlt:j < lt.length
    · have hltz:(j:Int) < (lt.length:Int):=by omega
      obtain ⟨ad,rfl,t0,t1,t2⟩:=at_T79 (Kd.qw1_ HR.out.row (qb_ (qb_ (Below.refl w.heap.size w) (.cells #[.int .i64 D,.int .i64 N,.slice A lt.length c] 38)) (.cells #[.int .i64 0,.int .i64 0] 77))) (j:Int) (by omega) (by omega)
      have e1:rd_T79 lt (j:Int)=lt[j]:=by simp [rd_T79,List.getD_eq_getElem?_getD,List.getElem?_eq_getElem hlt]
      rw [e1,Int.toNat_natCast] at t0 t1 t2
      have hd:=HV.out
      rw [List.drop_eq_getElem_cons hlt] at hd
      by_cases c1:lt[j].f0=s
      · rw [valL_hit c1] at hd
        obtain ⟨x,hx⟩:∃ x,x=lt[j]:=⟨_,rfl⟩
        rw [← hx] at t0 t1 t2 hd c1
        subst hd
        rw [c1] at t0
        clear hx e1 c1
        go_wp2
        go_returns
        refine ⟨rfl,?_⟩
        rfl
      · rw [valL_miss c1] at hd
        have HD:=Aside0.mk hd
        have c2:(lt[j].f0.toList == s.toList)=false:=by
          rw [beq_eq_false_iff_ne]
          intro h;rw [ByteArray.toList_eq,ByteArray.toList_eq] at h;exact c1 (ByteArray.ext (Array.toList_inj.1 h))
        have HL:=Aside0.mk HR.out.len
        clear hd e1
        go_wp2
        go_roundg (lt.length - (j+1))
        case measure=>omega
        case rel=>exact ⟨j+1,by omega,by omega,by have:=HL.out;first|rfl|(rw [w64 (by omega) (by omega)];rfl),HD,rfl⟩
    · have hltz:¬ (j:Int) < (lt.length:Int):=by omega
      have hd:=HV.out
      rw [List.drop_eq_nil_of_le (by omega)] at hd
      obtain rfl:zeroF=a:=hd
      go_wp2
      go_returns
      exact ⟨rfl,rfl⟩
theorem zeroS (W:World) (a:S77):Calls Try.prog 141 #[.agg #[.int .i64 a.f0,.int .i64 a.f1]] W fun e w'=>e=.returned (.bool (a.f0 == 0))∧Below W.heap.size W w':=spec_l01Zero.calls _ _ _ _ rfl
/-- A fraction as_ the reference tells it. -/
def tellF (p:S77 × Bool):S77:=if p.2=true then p.1 else ⟨0,0⟩
theorem timesFS (W:World) {a b:S77} (ha:okF a) (hb:okF b):Calls Try.prog 178 #[.agg #[.int .i64 a.f0,.int .i64 a.f1],.agg #[.int .i64 b.f0,.int .i64 b.f1]] W fun e w'=>e=.returned (.tuple #[.agg #[.int .i64 (tellF (timesM a b)).f0,.int .i64 (tellF (timesM a b)).f1],.bool (timesM a b).2])∧Below W.heap.size W w':=by
  obtain ⟨k,hk⟩:=(stimes_is ha hb).rounds
  refine qm2_.calls k _ _ _ _ _ _ _ _ ?_
  rw [hk]
  unfold toldM tellF
  cases (timesM a b).2 <;> rfl
theorem plusFS (W:World) {a b:S77} (ha:okF a) (hb:okF b):Calls Try.prog 187 #[.agg #[.int .i64 a.f0,.int .i64 a.f1],.agg #[.int .i64 b.f0,.int .i64 b.f1]] W fun e w'=>e=.returned (.tuple #[.agg #[.int .i64 (tellF (plusM a b)).f0,.int .i64 (tellF (plusM a b)).f1],.bool (plusM a b).2])∧Below W.heap.size W w':=by
  obtain ⟨k,hk⟩:=(splus_is ha hb).rounds
  refine qq2_.calls k _ _ _ _ _ _ _ _ ?_
  rw [hk]
  unfold toldM tellF
  cases (plusM a b).2 <;> rfl
theorem plusBadS (W:World) (a:S77):Calls Try.prog 187 #[.agg #[.int .i64 a.f0,.int .i64 a.f1],.agg #[.int .i64 0,.int .i64 0]] W fun e w'=>e=.returned (.tuple #[.agg #[.int .i64 0,.int .i64 0],.bool false])∧Below W.heap.size W w':=by
  obtain ⟨k,hk⟩:=(splus_bad a).rounds
  exact qq2_.calls k _ _ _ _ _ _ _ _ hk
theorem wordsS (W:World) (d m:Nat) (hd:d≤3) (hm:m≤8):Calls Try.prog 185 #[.int .i64 (d:Int),.int .i64 (m:Int)] W fun e w'=>∃ A c,e=.returned (.slice A (wordsN d m).length c)∧WordsAt w' W.heap.size A c ((wordsN d m).map encW)∧Below W.heap.size W w':=by
  obtain ⟨k,hk⟩:=(spec_words d m hd (by omega)).rounds
  refine (qo_.calls k _ _ _ _ hk).mono ?_
  rintro e w' ⟨v,rfl,hv,hb⟩
  rw [wordsL_enc] at hv
  obtain ⟨A,c,rfl,h⟩:=WordsAt.of hv
  exact ⟨A,c,by rw [List.length_map],h,hb⟩
theorem emptyS (W:World) (D N:Int) {A:Option Addr} {c:Nat} {l:List S79} (H:TmsC W A c l):Calls Try.prog 108 #[.agg #[.int .i64 D,.int .i64 N,.slice A l.length c]] W fun e w'=>∃ v:Value,e=.returned (.agg #[.int .i64 D,.int .i64 N,v])∧TermsR w' W.heap.size v []∧Below W.heap.size W w' :=
  qu2_.calls _ _ _ _ _ _ _ _ _ H.row H.cap rfl
theorem oneS (W:World) (m:Int):Calls Try.prog 124 #[.int .i64 m] W fun e w'=>e=.returned (.agg #[.int .i64 m,.int .i64 1])∧Below W.heap.size W w':=qt2_.calls _ _ _ _ rfl
end Go.Proofs.Ytaiefdhenikiiaa.Base
namespace Go.Proofs.Ytaiefdhenikiiaa.Base
open Go.RowKit Go.Proofs.YtaiefdhenikiiaaW.PrintWords Go.Proofs.YtaiefdhenikiiaaW.PrintLast Go.Proofs.YtaiefdhenikiiaaW.PrintMore
set_option linter.unusedVariables false
set_option linter.unusedSimpArgs false
theorem prod_failAt {t u:Tb} {d n m i:Nat} (hm:m≤n) (hi:i < (wordsN d m).length) (h:wordO t u (wordsN d m)[i]=none):prodO t u (wordsD d n) (some [])=none:=by
  obtain ⟨r,hr⟩:=wordsU_le d (show m+1≤n+1 by omega)
  rw [← wordsU_D,hr,show wordsU d (m+1)=wordsU d m ++ wordsN d m from rfl]
  have e:wordsN d m=(wordsN d m).take i ++ (wordsN d m)[i] :: (wordsN d m).drop (i+1):=by
    rw [← List.drop_eq_getElem_cons hi,List.take_append_drop]
  have e2:∀ (X p q:List (List Nat)) (x:List Nat),X=p ++ x :: q→wordsU d m ++ X ++ r=(wordsU d m ++ p) ++ x :: (q ++ r):=by
    intro X p q x h
    rw [h];simp
  rw [e2 _ _ _ _ e]
  exact prodO_fail t u _ _ _ h
/-- What stands in memory while products are summed. -/
structure StS (w W:World) (bo:Nat) (d n:Int) (A:Option Addr) (ca la:Nat) (B:Option Addr) (cb lb:Nat) (vo:Value) (acc:List S79):Prop where
  sx:SrAt W w.heap.size d n (.slice A la ca)
  sy:SrAt W (w.heap.size+1) d n (.slice B lb cb)
  sr:SrAt W (w.heap.size+2) 0 0 (.slice none 0 0)
  so:SrAt W bo d n vo
  ro:TermsR W w.heap.size vo acc
  be:Below w.heap.size w W
  lo:w.heap.size+2 < bo
theorem StS.below {w W W':World} {bo:Nat} {d n:Int} {A B:Option Addr} {ca la cb lb:Nat} {vo:Value} {acc:List S79} (H:StS w W bo d n A ca la B cb lb vo acc) (hb:Below W.heap.size W W'):StS w W' bo d n A ca la B cb lb vo acc :=
  ⟨H.sx.below hb,H.sy.below hb,H.sr.below hb,H.so.below hb,Kd.qe2_ H.ro hb,qe_ H.be hb,H.lo⟩
theorem keep7 {w W:World} {a1 a2 a3 a4 a5 a6 a7:Addr} {v1 v2 v3 v4 v5 v6 v7:Value} (p1:w.cell? a1=some v1) (p2:w.cell? a2=some v2) (p3:w.cell? a3=some v3) (p4:w.cell? a4=some v4) (p5:w.cell? a5=some v5) (p6:w.cell? a6=some v6) (p7:w.cell? a7=some v7) (hb:Below w.heap.size w W) :
    W.cell? a1=some v1∧W.cell? a2=some v2∧W.cell? a3=some v3∧W.cell? a4=some v4∧W.cell? a5=some v5∧W.cell? a6=some v6∧W.cell? a7=some v7 :=
  ⟨qs_ hb p1,qs_ hb p2,qs_ hb p3,qs_ hb p4,qs_ hb p5,qs_ hb p6,qs_ hb p7⟩
theorem FrAt.put3 {w:World} {b:Nat} {s:S77} (h:FrAt w b s) (a:S77):FrAt ((w.setCell ⟨b,0,none⟩ (.int .i64 a.f0)).setCell ⟨b,1,none⟩ (.int .i64 a.f1)) b a:=qr_ (qr_ h 0 _) 1 _
set_option maxHeartbeats 32000000 in
set_option maxRecDepth 100000 in
theorem timesS (w:World) (d n:Nat) (hs:Sz d n) {t u:Tb} (ht:Like t (zeroT d n)) (hu:Like u (zeroT d n)) (hbt:t.bad=false) (hbu:u.bad=false) {A B:Option Addr} {ca cb:Nat} (hA:TmsC w A ca (termsT t)) (hB:TmsC w B cb (termsT u)) :
    Calls Try.prog 133 #[.agg #[.int .i64 (d:Int),.int .i64 (n:Int),.slice A (termsT t).length ca],.agg #[.int .i64 (d:Int),.int .i64 (n:Int),.slice B (termsT u).length cb]] w (OutR w d n (outT (timesT t u))):=by
  have hR0:=times_terms t u (zeroT d n) hs ht hbt hbu
  rw [← hR0]
  obtain ⟨R,hR⟩:∃ R,R=prodO t u (wordsD d n) (some []):=⟨_,rfl⟩
  show Calls _ _ _ _ (OutR w d n (prodO t u (wordsD d n) (some [])))
  rw [← hR]
  have HRR:=Aside0.mk hR
  have HVt:=Aside0.mk (show ∀ l,isD d n l→valL (termsT t) (encW l)=t.val l from fun l hl=>valL_terms ht.2.2 (by rw [ht.1,ht.2.1];exact hl))
  have HVu:=Aside0.mk (show ∀ l,isD d n l→valL (termsT u) (encW l)=u.val l from fun l hl=>valL_terms hu.2.2 (by rw [hu.1,hu.2.1];exact hl))
  have HFt:=Aside0.mk (show ∀ l,okF (t.val l) from fun l=>ht.2.2.val l)
  have HFu:=Aside0.mk (show ∀ l,okF (u.val l) from fun l=>hu.2.2.val l)
  generalize termsT t=lt at hA HVt ⊢
  generalize termsT u=lu at hB HVu ⊢
  have HA:=Aside0.mk hA
  have HB:=Aside0.mk hB
  have HS:=Aside0.mk hs
  have hu:=Try.underlying38
  have hu2:=Try.underlying79
  have hu3:=Try.underlying77
  clear hR hR0 ht hbt hbu hA hB hs
  go_enter Try.func133,Try.ntmps133
  go_wp2_with (go_at_call 108;refine (emptyS _ d n (HA.out.below (qb_ (qb_ (qb_ (Below.refl _ _) _) _) _))).mono ?_;rintro e w1 ⟨v,rfl,hv,hb⟩;obtain ⟨A1,c1,rfl⟩:=Kd.qa2_ hv;have S1:SrAt w1 w.heap.size d n (.slice A lt.length ca):=ql_ (old_at (old_at (new_at rfl))) hb;have S2:SrAt w1 (w.heap.size+1) d n (.slice B lu.length cb):=ql_ (old_at (new_at (by simp))) hb;have S3:SrAt w1 (w.heap.size+2) 0 0 (.slice none 0 0):=ql_ (new_at (by simp)) hb;have HB1:=Aside0.mk (show Below w.heap.size w w1 from qe_ (qb_ (qb_ (qb_ (Below.refl _ _) _) _) _) hb);have HL1:=Aside0.mk (show w.heap.size+2 < w1.heap.size from S3.lt);have HS1:=Aside0.mk S1;have HS2:=Aside0.mk S2;have HS3:=Aside0.mk S3;have HV1:=Aside0.mk (show TermsR w1 w.heap.size (.slice A1 ([]:List S79).length c1) [] from Kd.qi2_ hv (qk_ (qb_ (qb_ (qb_ (Below.refl w.heap.size w) _) _) _)));clear S1 S2 S3 hv hb)
  go_loopg [7] (n+1) (fun gg v7 wr=>∃ (m:Nat) (vo:Value) (acc:List S79),m≤n+1∧n+1 - m≤gg∧v7=.int .i64 m∧Aside0 (StS w wr w1.heap.size d n A ca lt.length B cb lu.length vo acc)∧Aside0 (prodO t u (wordsU d m) (some [])=some acc))
  case atStart =>
    refine ⟨0,.slice A1 0 c1,[],Nat.zero_le _,by omega,rfl,⟨⟨?_,?_,?_,?_,?_,?_,HL1.out⟩⟩,⟨rfl⟩⟩
    · exact HS1.out.alloc _
    · exact HS2.out.alloc _
    · exact HS3.out.alloc _
    · exact new_at rfl
    · exact Kd.qc1_ HV1.out _
    · exact qb_ HB1.out _
  case round =>
    clear HS1 HS2 HS3 HV1
    obtain ⟨m,vo,acc,hm,hg,rfl,HI,HP⟩:=hrel
    by_cases hlt:m≤n
    · have hz:(m:Int)≤(n:Int):=by omega
      have x0:=HI.out.sx.c0
      have x1:=HI.out.sx.c1
      have hlen:=Aside0.mk (wordsN_small d m HS.out.d3 (by have:=HS.out.n8;omega))
      have HML:=Aside0.mk hlt
      have HWL:=Aside0.mk (show ((wordsN d m).map encW).length=(wordsN d m).length from List.length_map _)
      go_wp2_with (go_at_call 185;refine (wordsS _ d m HS.out.d3 (by have:=HS.out.n8;have:=HML.out;omega)).mono ?_;rintro e w2 ⟨Aw,cw,rfl,HW,hb⟩;have HI2:=Aside0.mk (HI.out.below hb);have HW2:=Aside0.mk (show ∃ Bw,WordsAt w2 Bw Aw cw ((wordsN d m).map encW) from ⟨_,HW⟩);clear HW hb)
      clear x0 x1
      go_loopg [9] (wordsN d m).length (fun gg v9 wi=>∃ (i:Nat) (vo:Value) (acc:List S79),i≤(wordsN d m).length∧(wordsN d m).length - i≤gg∧v9=.int .i64 i∧Aside0 (StS w wi w1.heap.size d n A ca lt.length B cb lu.length vo acc)∧Aside0 (prodO t u (wordsU d m ++ (wordsN d m).take i) (some [])=some acc)∧Aside0 (∃ Bw,WordsAt wi Bw Aw cw ((wordsN d m).map encW)))
      case atStart=>exact ⟨0,vo,acc,Nat.zero_le _,by omega,rfl,HI2,⟨by rw [List.take_zero,List.append_nil];exact HP.out⟩,HW2⟩
      case round =>
        clear HI HP HI2 HW2
        obtain ⟨i,vo,acc,hi,hgi,rfl,HI,HP,HW⟩:=hrel
        by_cases hil:i < (wordsN d m).length
        · have hiz:(i:Int) < ((wordsN d m).length:Int):=by omega
          obtain ⟨Bw,HWb⟩:=HW.out
          obtain ⟨ad,rfl,hx⟩:=HWb.at i (by rw [HWL.out];exact hil)
          obtain ⟨l,hl⟩:∃ l,l=(wordsN d m)[i]:=⟨_,rfl⟩
          have hxl:((wordsN d m).map encW)[i]'(by rw [HWL.out];exact hil)=encW l:=by rw [hl];simp
          rw [hxl] at hx
          have HLL:=Aside0.mk hl
          have HD:=Aside0.mk (show isD d n l by rw [hl];exact wordsN_isD HML.out (List.getElem_mem hil))
          have hsz:(encW l).size=l.length:=encW_size l
          have hll:l.length≤8:=by have:=HD.out.1;have:=HS.out.n8;omega
          have HX:=Aside0.mk hx
          have HWB:=Aside0.mk HWb
          clear hl hxl HWb
          go_wp2_with (go_at_call 124;refine (oneS _ 0).mono ?_;rintro e w3 ⟨rfl,hb⟩;have HI3:=Aside0.mk (HI.out.below hb);have HX3:=Aside0.mk (qs_ hb HX.out);have HW3:=Aside0.mk (WordsAt.below HWB.out hb);clear hb)
          go_loopg [11] (l.length+1) (fun gg v11 wj=>∃ (j:Nat) (s:S77),j≤l.length+1∧l.length+1 - j≤gg∧v11=.int .i64 j∧Aside0 (FrAt wj w3.heap.size s)∧Aside0 (cutsO (fun i=>t.val (l.take i)) (fun i=>u.val (l.drop i)) j=some s)∧Aside0 (Below w3.heap.size w3 wj))
          case atStart=>exact ⟨0,zeroF,Nat.zero_le _,by omega,rfl,⟨FrAt.new _ zeroF⟩,⟨rfl⟩,⟨qb_ (Below.refl _ _) _⟩⟩
          case round =>
            obtain ⟨j,s,hj,hgj,rfl,HF,HC,HBj⟩:=hrel
            have hxj:=qs_ HBj.out HX3.out
            by_cases hjl:j < l.length+1
            · have hjz:(j:Int)≤(l.length:Int):=by omega
              obtain ⟨a,ha⟩:∃ a,a=t.val (l.take j):=⟨_,rfl⟩
              obtain ⟨b,hb0⟩:∃ b,b=u.val (l.drop j):=⟨_,rfl⟩
              have HVA:=Aside0.mk (show ∀ W,TmsC W A ca lt→Calls Try.prog 186 #[.agg #[.int .i64 (d:Int),.int .i64 (n:Int),.slice A lt.length ca],.string ((encW l).extract 0 j)] W (fun e w'=>e=.returned (.agg #[.int .i64 a.f0,.int .i64 a.f1])∧w'=(W.alloc (.cells #[.int .i64 (d:Int),.int .i64 (n:Int),.slice A lt.length ca] 38)).alloc (.cells #[.int .i64 a.f0,.int .i64 a.f1] 77)) from fun W H=>valX W _ _ H _ a (by rw [extract_enc l 0 j (Nat.zero_le _),List.drop_zero,ha];exact HVt.out _ (isD_take HD.out j)))
              have HVB:=Aside0.mk (show ∀ W,TmsC W B cb lu→Calls Try.prog 186 #[.agg #[.int .i64 (d:Int),.int .i64 (n:Int),.slice B lu.length cb],.string ((encW l).extract j l.length)] W (fun e w'=>e=.returned (.agg #[.int .i64 b.f0,.int .i64 b.f1])∧w'=(W.alloc (.cells #[.int .i64 (d:Int),.int .i64 (n:Int),.slice B lu.length cb] 38)).alloc (.cells #[.int .i64 b.f0,.int .i64 b.f1] 77)) from fun W H=>valX W _ _ H _ b (by rw [extract_enc l j _ (by omega),List.take_length,hb0];exact HVu.out _ (isD_drop HD.out j)))
              have HOA:=Aside0.mk (show okF a by rw [ha];exact HFt.out _)
              have HOB:=Aside0.mk (show okF b by rw [hb0];exact HFu.out _)
              have HOS:=Aside0.mk (cutsO_ok HC.out)
              have HIj:=Aside0.mk (HI3.out.below HBj.out)
              have HAj:=Aside0.mk (HA.out.below HIj.out.be)
              have HBBj:=Aside0.mk (HB.out.below HIj.out.be)
              have HCS:=Aside0.mk (show cutsO (fun i=>t.val (l.take i)) (fun i=>u.val (l.drop i)) (j+1)=cutO a b s by
                show (cutsO _ _ j).bind _=_
                rw [HC.out,ha,hb0];rfl)
              have p0:=HIj.out.sx.c0
              have p1:=HIj.out.sx.c1
              have p2:=HIj.out.sx.c2
              have q0:=HIj.out.sy.c0
              have q1:=HIj.out.sy.c1
              have q2:=HIj.out.sy.c2
              have r0:=hxj
              clear ha hb0
              go_wp2
              go_cut [12,13] (fun v12 v13 wx=>∃ b9 b10:Nat,v12=.pointer (some ⟨b9,0,none⟩)∧v13=.pointer (some ⟨b10,0,none⟩)∧Aside0 (FrAt wx b9 a)∧Aside0 (FrAt wx b10 b)∧Aside0 (Below wr.heap.size wr wx))
              case first =>
                go_region_held3 (fun w'=>w'.cell? ⟨w.heap.size,0,none⟩=some (.int .i64 (d:Int))∧w'.cell? ⟨w.heap.size,1,none⟩=some (.int .i64 (n:Int))∧w'.cell? ⟨w.heap.size,2,none⟩=some (.slice A lt.length ca)∧w'.cell? ⟨w.heap.size+1,0,none⟩=some (.int .i64 (d:Int))∧w'.cell? ⟨w.heap.size+1,1,none⟩=some (.int .i64 (n:Int))∧w'.cell? ⟨w.heap.size+1,2,none⟩=some (.slice B lu.length cb)∧w'.cell? (ad.add i)=some (.string (encW l))) (exact keep7 p0 p1 p2 q0 q1 q2 r0 (by repeat' (first|(with_reducible exact Below.refl _ _)|(with_reducible refine Below.setCell ?_ ?_ _)|(with_reducible refine qc_ ?_)|(with_reducible refine qa_ ?_ _)|(with_reducible refine qb_ ?_ _)|(simp;done)|(simp;omega)))) (first
                  | (go_at_call_of 186 (Value.agg #[.int .i64 (d:Int),.int .i64 (n:Int),.slice A lt.length ca]);refine (HVA.out _ ?hT).mono ?_;(case hT=>exact HAj.out.below (by repeat (first|(with_reducible exact Below.refl _ _)|(with_reducible refine qc_ ?_)|(with_reducible refine qa_ ?_ _)|(with_reducible refine qb_ ?_ _))));rintro e w4 ⟨rfl,rfl⟩)
                  | (go_at_call_of 186 (Value.agg #[.int .i64 (d:Int),.int .i64 (n:Int),.slice B lu.length cb]);refine (HVB.out _ ?hT).mono ?_;(case hT=>exact HBBj.out.below (by repeat (first|(with_reducible exact Below.refl _ _)|(with_reducible refine qc_ ?_)|(with_reducible refine qa_ ?_ _)|(with_reducible refine qb_ ?_ _))));rintro e w4 ⟨rfl,rfl⟩))
                all_goals
                  go_wp2_with fail
                  go_meet
                  case rel =>
                    refine ⟨_,_,rfl,rfl,⟨?_⟩,⟨?_⟩,⟨?_⟩⟩
                    · (repeat' (first|((with_reducible refine FrAt.new' ?_ _);simp;done)|(with_reducible refine FrAt.put2 ?_ _)|(with_reducible refine FrAt.drewN ?_ _)|(with_reducible refine FrAt.drew ?_)|(with_reducible refine FrAt.alloc ?_ _)|((with_reducible refine FrAt.far ?_ ?_ _);rotate_left;(focus (first|(simp;done)|(simp;omega))))|(with_reducible refine drewN_at ?_)|(with_reducible refine drew_at ?_)|((with_reducible refine new_at ?_);simp;done)|(with_reducible refine old_at ?_)|((with_reducible refine qb2_ ?_ ?_ _);rotate_left;(focus (first|(simp;done)|(simp;omega))))))
                    · (repeat' (first|((with_reducible refine FrAt.new' ?_ _);simp;done)|(with_reducible refine FrAt.put2 ?_ _)|(with_reducible refine FrAt.drewN ?_ _)|(with_reducible refine FrAt.drew ?_)|(with_reducible refine FrAt.alloc ?_ _)|((with_reducible refine FrAt.far ?_ ?_ _);rotate_left;(focus (first|(simp;done)|(simp;omega))))|(with_reducible refine drewN_at ?_)|(with_reducible refine drew_at ?_)|((with_reducible refine new_at ?_);simp;done)|(with_reducible refine old_at ?_)|((with_reducible refine qb2_ ?_ ?_ _);rotate_left;(focus (first|(simp;done)|(simp;omega))))))
                    · (repeat' (first|(with_reducible exact Below.refl _ _)|(with_reducible refine Below.setCell ?_ ?_ _)|(with_reducible refine qc_ ?_)|(with_reducible refine qa_ ?_ _)|(with_reducible refine qb_ ?_ _)|(simp;done)|(simp;omega)))
              case rest =>
                obtain ⟨b9,b10,rfl,rfl,HF9,HF10,HM4⟩:=hcut
                have f9:=HF9.out.c0
                have f9':=HF9.out.c1
                have HS4:=Aside0.mk (HF.out.below HM4.out)
                have HB4:=Aside0.mk (qe_ HBj.out HM4.out)
                clear p0 p1 p2 q0 q1 q2 r0 hxj
                by_cases ca0:a.f0=0
                · have HZ:=Aside0.mk (show ∀ W,Calls Try.prog 141 #[.agg #[.int .i64 a.f0,.int .i64 a.f1]] W fun e w'=>e=.returned (.bool true)∧Below W.heap.size W w' from fun W=>by have:=zeroS W a;rwa [show (a.f0 == 0)=true from by rw [ca0];rfl] at this)
                  have HCO:=Aside0.mk (HCS.out.trans (show cutO a b s=some s from by unfold cutO;rw [if_pos (Or.inl ca0)]))
                  clear ca0
                  go_wp2_with (go_at_call 141;refine (HZ.out _).mono ?_;rintro e w5 ⟨rfl,hb⟩;have HB5:=Aside0.mk hb;clear hb)
                  go_roundg (l.length+1 - (j+1))
                  case measure=>omega
                  case rel=>exact ⟨j+1,s,by omega,by omega,by first|rfl|(rw [w64 (by omega) (by omega)];rfl),⟨HS4.out.below HB5.out⟩,HCO,⟨qe_ HB4.out HB5.out⟩⟩
                · have HZ:=Aside0.mk (show ∀ W,Calls Try.prog 141 #[.agg #[.int .i64 a.f0,.int .i64 a.f1]] W fun e w'=>e=.returned (.bool false)∧Below W.heap.size W w' from fun W=>by have:=zeroS W a;rwa [show (a.f0 == 0)=false from by simpa using ca0] at this)
                  by_cases cb0:b.f0=0
                  · have HZ2:=Aside0.mk (show ∀ W,Calls Try.prog 141 #[.agg #[.int .i64 b.f0,.int .i64 b.f1]] W fun e w'=>e=.returned (.bool true)∧Below W.heap.size W w' from fun W=>by have:=zeroS W b;rwa [show (b.f0 == 0)=true from by rw [cb0];rfl] at this)
                    have HCO:=Aside0.mk (HCS.out.trans (show cutO a b s=some s from by unfold cutO;rw [if_pos (Or.inr cb0)]))
                    clear ca0 cb0
                    obtain ⟨flag,hflag⟩:∃ b:Nat,b=0:=⟨0,rfl⟩
                    go_wp2_with (first
                      | (go_at_call 141;clear hflag;refine (HZ.out _).mono ?_;rintro e w5 ⟨rfl,hb⟩;have HB5:=Aside0.mk hb;have g0:=(HF10.out.below hb).c0;have g1:=(HF10.out.below hb).c1;clear hb)
                      | (go_at_call 141;refine (HZ2.out _).mono ?_;rintro e w6 ⟨rfl,hb⟩;have HB6:=Aside0.mk (qe_ HB5.out hb);clear hb))
                    go_roundg (l.length+1 - (j+1))
                    case measure=>omega
                    case rel=>exact ⟨j+1,s,by omega,by omega,by first|rfl|(rw [w64 (by omega) (by omega)];rfl),⟨HS4.out.below HB6.out⟩,HCO,⟨qe_ HB4.out HB6.out⟩⟩
                  · have HZ2:=Aside0.mk (show ∀ W,Calls Try.prog 141 #[.agg #[.int .i64 b.f0,.int .i64 b.f1]] W fun e w'=>e=.returned (.bool false)∧Below W.heap.size W w' from fun W=>by have:=zeroS W b;rwa [show (b.f0 == 0)=false from by simpa using cb0] at this)
                    have HCO:=Aside0.mk (HCS.out.trans (show cutO a b s=if (timesM a b).2=true∧(plusM s (timesM a b).1).2=true then some (plusM s (timesM a b).1).1 else none from by unfold cutO;rw [if_neg (fun h=>h.elim ca0 cb0)]))
                    have HTM:=Aside0.mk (show ∀ W,_ from fun W=>timesFS W HOA.out HOB.out)
                    clear ca0 cb0
                    have HFail:=Aside0.mk (show cutsO (fun i=>t.val (l.take i)) (fun i=>u.val (l.drop i)) (j+1)=none→R=none from fun h=>by
                      rw [HRR.out]
                      refine prod_failAt HML.out hil ?_
                      rw [← HLL.out]
                      exact cutsO_fail (by omega) h)
                    by_cases c1:(timesM a b).2=true
                    · obtain ⟨q,hq⟩:∃ q,q=(timesM a b).1:=⟨_,rfl⟩
                      have HOQ:=Aside0.mk (show okF q by rw [hq];exact times_okF c1)
                      have HTM2:=Aside0.mk (show ∀ W,Calls Try.prog 178 #[.agg #[.int .i64 a.f0,.int .i64 a.f1],.agg #[.int .i64 b.f0,.int .i64 b.f1]] W fun e w'=>e=.returned (.tuple #[.agg #[.int .i64 q.f0,.int .i64 q.f1],.bool true])∧Below W.heap.size W w' from fun W=>by have:=HTM.out W;unfold tellF at this;rw [if_pos c1,c1,← hq] at this;exact this)
                      have HCO2:=Aside0.mk (show cutsO (fun i=>t.val (l.take i)) (fun i=>u.val (l.drop i)) (j+1)=if (plusM s q).2=true then some (plusM s q).1 else none from by rw [HCO.out,← hq];simp only [c1,true_and])
                      clear c1 hq HTM HCO
                      by_cases c2:(plusM s q).2=true
                      · obtain ⟨r,hr⟩:∃ r,r=(plusM s q).1:=⟨_,rfl⟩
                        have HPL:=Aside0.mk (show ∀ W,Calls Try.prog 187 #[.agg #[.int .i64 s.f0,.int .i64 s.f1],.agg #[.int .i64 q.f0,.int .i64 q.f1]] W fun e w'=>e=.returned (.tuple #[.agg #[.int .i64 r.f0,.int .i64 r.f1],.bool true])∧Below W.heap.size W w' from fun W=>by have:=plusFS W HOS.out HOQ.out;unfold tellF at this;rw [if_pos c2,c2,← hr] at this;exact this)
                        have HCO3:=Aside0.mk (show cutsO (fun i=>t.val (l.take i)) (fun i=>u.val (l.drop i)) (j+1)=some r from by rw [HCO2.out,if_pos c2,← hr])
                        clear c2 hr
                        obtain ⟨flag,hflag⟩:∃ b:Nat,b=0:=⟨0,rfl⟩
                        go_wp2_with (first
                          | (go_at_call 141;clear hflag;refine (HZ.out _).mono ?_;rintro e w5 ⟨rfl,hb⟩;have HB5:=Aside0.mk hb;have g0:=(HF10.out.below hb).c0;have g1:=(HF10.out.below hb).c1;clear hb)
                          | (go_at_call 141;refine (HZ2.out _).mono ?_;rintro e w6 ⟨rfl,hb⟩;have HB6:=Aside0.mk (qe_ HB5.out hb);have k0:=(HF9.out.below HB6.out).c0;have k1:=(HF9.out.below HB6.out).c1;have k2:=(HF10.out.below HB6.out).c0;have k3:=(HF10.out.below HB6.out).c1;clear hb)
                          | (go_at_call 178;refine (HTM2.out _).mono ?_;rintro e w7 ⟨rfl,hb⟩;have HB7:=Aside0.mk (qe_ HB6.out hb);have S:=HS4.out.below HB7.out;have e0:(w7.alloc (.cells #[.int .i64 q.f0,.int .i64 q.f1] 77)).cell? ⟨w3.heap.size,0,none⟩=some (.int .i64 s.f0):=(S.alloc _).c0;have e1:(w7.alloc (.cells #[.int .i64 q.f0,.int .i64 q.f1] 77)).cell? ⟨w3.heap.size,1,none⟩=some (.int .i64 s.f1):=(S.alloc _).c1;clear S hb)
                          | (go_at_call 187;refine (HPL.out _).mono ?_;rintro e w8 ⟨rfl,hb⟩;have HB8:=Aside0.mk (qe_ HB7.out (qe_ (qb_ (Below.refl _ _) _) hb));have S:=HS4.out.below HB8.out;have e2:(w8.alloc (.cells #[.int .i64 r.f0,.int .i64 r.f1] 77)).cell? ⟨w3.heap.size,0,none⟩=some (.int .i64 s.f0):=(S.alloc _).c0;have e3:(w8.alloc (.cells #[.int .i64 r.f0,.int .i64 r.f1] 77)).cell? ⟨w3.heap.size,1,none⟩=some (.int .i64 s.f1):=(S.alloc _).c1;have ef2:=qd_ (S.alloc (.cells #[.int .i64 r.f0,.int .i64 r.f1] 77)) 0;have ef3:=qd_ (S.alloc (.cells #[.int .i64 r.f0,.int .i64 r.f1] 77)) 1;have HS8:=Aside0.mk S;clear S hb))
                        go_roundg (l.length+1 - (j+1))
                        case measure=>omega
                        case rel =>
                          refine ⟨j+1,r,by omega,by omega,by first|rfl|(rw [w64 (by omega) (by omega)];rfl),⟨?_⟩,HCO3,⟨?_⟩⟩
                          · exact FrAt.put3 (HS8.out.alloc _) r
                          · exact ((qb_ (qe_ HB4.out HB8.out) _).setCell (Nat.le_refl _) _).setCell (Nat.le_refl _) _
                      · have c2':(plusM s q).2=false:=by simpa using c2
                        have HPL:=Aside0.mk (show ∀ W,Calls Try.prog 187 #[.agg #[.int .i64 s.f0,.int .i64 s.f1],.agg #[.int .i64 q.f0,.int .i64 q.f1]] W fun e w'=>e=.returned (.tuple #[.agg #[.int .i64 0,.int .i64 0],.bool false])∧Below W.heap.size W w' from fun W=>by have:=plusFS W HOS.out HOQ.out;unfold tellF at this;rw [if_neg c2,c2'] at this;exact this)
                        have HRN:=Aside0.mk (HFail.out (by rw [HCO2.out,if_neg c2]))
                        clear c2 c2'
                        obtain ⟨flag,hflag⟩:∃ b:Nat,b=0:=⟨0,rfl⟩
                        go_wp2_with (first
                          | (go_at_call 141;clear hflag;refine (HZ.out _).mono ?_;rintro e w5 ⟨rfl,hb⟩;have HB5:=Aside0.mk hb;have g0:=(HF10.out.below hb).c0;have g1:=(HF10.out.below hb).c1;clear hb)
                          | (go_at_call 141;refine (HZ2.out _).mono ?_;rintro e w6 ⟨rfl,hb⟩;have HB6:=Aside0.mk (qe_ HB5.out hb);have k0:=(HF9.out.below HB6.out).c0;have k1:=(HF9.out.below HB6.out).c1;have k2:=(HF10.out.below HB6.out).c0;have k3:=(HF10.out.below HB6.out).c1;clear hb)
                          | (go_at_call 178;refine (HTM2.out _).mono ?_;rintro e w7 ⟨rfl,hb⟩;have HB7:=Aside0.mk (qe_ HB6.out hb);have S:=HS4.out.below HB7.out;have e0:(w7.alloc (.cells #[.int .i64 q.f0,.int .i64 q.f1] 77)).cell? ⟨w3.heap.size,0,none⟩=some (.int .i64 s.f0):=(S.alloc _).c0;have e1:(w7.alloc (.cells #[.int .i64 q.f0,.int .i64 q.f1] 77)).cell? ⟨w3.heap.size,1,none⟩=some (.int .i64 s.f1):=(S.alloc _).c1;clear S hb)
                          | (go_at_call 187;refine (HPL.out _).mono ?_;rintro e w8 ⟨rfl,hb⟩;have HB8:=Aside0.mk (qe_ HB7.out (qe_ (qb_ (Below.refl _ _) _) hb));have S:=(HIj.out.below (qe_ HM4.out HB8.out)).sr;have e2:(w8.alloc (.cells #[.int .i64 0,.int .i64 0] 77)).cell? ⟨w.heap.size+1+1,0,none⟩=some (.int .i64 0):=(S.alloc _).c0;have e3:(w8.alloc (.cells #[.int .i64 0,.int .i64 0] 77)).cell? ⟨w.heap.size+1+1,1,none⟩=some (.int .i64 0):=(S.alloc _).c1;have e4:(w8.alloc (.cells #[.int .i64 0,.int .i64 0] 77)).cell? ⟨w.heap.size+1+1,2,none⟩=some (.slice none 0 0):=(S.alloc _).c2;have ef2:(w8.alloc (.cells #[.int .i64 0,.int .i64 0] 77)).frozen? ⟨w.heap.size+1+1,0,none⟩=false:=qd_ (S.alloc (.cells #[.int .i64 0,.int .i64 0] 77)) 0;have ef3:(w8.alloc (.cells #[.int .i64 0,.int .i64 0] 77)).frozen? ⟨w.heap.size+1+1,1,none⟩=false:=qd_ (S.alloc (.cells #[.int .i64 0,.int .i64 0] 77)) 1;have ef4:(w8.alloc (.cells #[.int .i64 0,.int .i64 0] 77)).frozen? ⟨w.heap.size+1+1,2,none⟩=false:=qd_ (S.alloc (.cells #[.int .i64 0,.int .i64 0] 77)) 2;have HS8:=Aside0.mk S;have HBW:=Aside0.mk ((HIj.out.below (qe_ HM4.out HB8.out)).be);clear S hb))
                        refine bodyPost_ret (results_ct rfl _ _ (w.heap.size+2) 38 _ (0,0) _ rfl (qr_ (qr_ (qr_ (HS8.out.alloc _) 0 _) 1 _) 2 _) hu rfl (by kernel_rfl)) rfl ?_
                        rw [HRN.out]
                        exact ⟨_,rfl,Kd.R_nil _ _ _ _ _,(((qb_ HBW.out _).setCell (Nat.le_add_right _ 2) _).setCell (Nat.le_add_right _ 2) _).setCell (Nat.le_add_right _ 2) _⟩
                    · have c1':(timesM a b).2=false:=by simpa using c1
                      have HTM2:=Aside0.mk (show ∀ W,Calls Try.prog 178 #[.agg #[.int .i64 a.f0,.int .i64 a.f1],.agg #[.int .i64 b.f0,.int .i64 b.f1]] W fun e w'=>e=.returned (.tuple #[.agg #[.int .i64 0,.int .i64 0],.bool false])∧Below W.heap.size W w' from fun W=>by have:=HTM.out W;unfold tellF at this;rw [if_neg c1,c1'] at this;exact this)
                      have HPL:=Aside0.mk (show ∀ W,_ from fun W=>plusBadS W s)
                      have HRN:=Aside0.mk (HFail.out (by rw [HCO.out,if_neg (fun h=>c1 h.1)]))
                      clear c1 c1'
                      obtain ⟨flag,hflag⟩:∃ b:Nat,b=0:=⟨0,rfl⟩
                      go_wp2_with (first
                        | (go_at_call 141;clear hflag;refine (HZ.out _).mono ?_;rintro e w5 ⟨rfl,hb⟩;have HB5:=Aside0.mk hb;have g0:=(HF10.out.below hb).c0;have g1:=(HF10.out.below hb).c1;clear hb)
                        | (go_at_call 141;refine (HZ2.out _).mono ?_;rintro e w6 ⟨rfl,hb⟩;have HB6:=Aside0.mk (qe_ HB5.out hb);have k0:=(HF9.out.below HB6.out).c0;have k1:=(HF9.out.below HB6.out).c1;have k2:=(HF10.out.below HB6.out).c0;have k3:=(HF10.out.below HB6.out).c1;clear hb)
                        | (go_at_call 178;refine (HTM2.out _).mono ?_;rintro e w7 ⟨rfl,hb⟩;have HB7:=Aside0.mk (qe_ HB6.out hb);have S:=HS4.out.below HB7.out;have e0:(w7.alloc (.cells #[.int .i64 0,.int .i64 0] 77)).cell? ⟨w3.heap.size,0,none⟩=some (.int .i64 s.f0):=(S.alloc _).c0;have e1:(w7.alloc (.cells #[.int .i64 0,.int .i64 0] 77)).cell? ⟨w3.heap.size,1,none⟩=some (.int .i64 s.f1):=(S.alloc _).c1;clear S hb)
                        | (go_at_call 187;refine (HPL.out _).mono ?_;rintro e w8 ⟨rfl,hb⟩;have HB8:=Aside0.mk (qe_ HB7.out (qe_ (qb_ (Below.refl _ _) _) hb));have S:=(HIj.out.below (qe_ HM4.out HB8.out)).sr;have e2:(w8.alloc (.cells #[.int .i64 0,.int .i64 0] 77)).cell? ⟨w.heap.size+1+1,0,none⟩=some (.int .i64 0):=(S.alloc _).c0;have e3:(w8.alloc (.cells #[.int .i64 0,.int .i64 0] 77)).cell? ⟨w.heap.size+1+1,1,none⟩=some (.int .i64 0):=(S.alloc _).c1;have e4:(w8.alloc (.cells #[.int .i64 0,.int .i64 0] 77)).cell? ⟨w.heap.size+1+1,2,none⟩=some (.slice none 0 0):=(S.alloc _).c2;have ef2:(w8.alloc (.cells #[.int .i64 0,.int .i64 0] 77)).frozen? ⟨w.heap.size+1+1,0,none⟩=false:=qd_ (S.alloc (.cells #[.int .i64 0,.int .i64 0] 77)) 0;have ef3:(w8.alloc (.cells #[.int .i64 0,.int .i64 0] 77)).frozen? ⟨w.heap.size+1+1,1,none⟩=false:=qd_ (S.alloc (.cells #[.int .i64 0,.int .i64 0] 77)) 1;have ef4:(w8.alloc (.cells #[.int .i64 0,.int .i64 0] 77)).frozen? ⟨w.heap.size+1+1,2,none⟩=false:=qd_ (S.alloc (.cells #[.int .i64 0,.int .i64 0] 77)) 2;have HS8:=Aside0.mk S;have HBW:=Aside0.mk ((HIj.out.below (qe_ HM4.out HB8.out)).be);clear S hb))
                      refine bodyPost_ret (results_ct rfl _ _ (w.heap.size+2) 38 _ (0,0) _ rfl (qr_ (qr_ (qr_ (HS8.out.alloc _) 0 _) 1 _) 2 _) hu rfl (by kernel_rfl)) rfl ?_
                      rw [HRN.out]
                      exact ⟨_,rfl,Kd.R_nil _ _ _ _ _,(((qb_ HBW.out _).setCell (Nat.le_add_right _ 2) _).setCell (Nat.le_add_right _ 2) _).setCell (Nat.le_add_right _ 2) _⟩
            · have hjz:¬ (j:Int)≤(l.length:Int):=by omega
              obtain rfl:j=l.length+1:=by omega
              have s0:=HF.out.c0
              have s1:=HF.out.c1
              have HWO:=Aside0.mk (show wordO t u l=some s from HC.out)
              have HOS:=Aside0.mk (cutsO_ok HC.out)
              have HIj:=Aside0.mk (HI3.out.below HBj.out)
              have HP2:=Aside0.mk (show prodO t u (wordsU d m ++ (wordsN d m).take (i+1)) (some [])=some (acc ++ (if s.f0=0 then [] else [⟨encW l,s⟩])) from by
                rw [List.take_succ_eq_append_getElem hil,← HLL.out,← List.append_assoc]
                exact prodO_snoc t u _ l HP.out HWO.out)
              by_cases cs:s.f0=0
              · have HZ:=Aside0.mk (show ∀ W,Calls Try.prog 141 #[.agg #[.int .i64 s.f0,.int .i64 s.f1]] W fun e w'=>e=.returned (.bool true)∧Below W.heap.size W w' from fun W=>by have:=zeroS W s;rwa [show (s.f0 == 0)=true from by rw [cs];rfl] at this)
                have hp2:=HP2.out
                rw [if_pos cs,List.append_nil] at hp2
                have HP3:=Aside0.mk hp2
                clear cs hp2
                go_wp2_with (go_at_call 141;refine (HZ.out _).mono ?_;rintro e w5 ⟨rfl,hb⟩;have HB5:=Aside0.mk hb;clear hb)
                go_roundg ((wordsN d m).length - (i+1))
                case measure=>omega
                case rel=>exact ⟨i+1,vo,acc,by omega,by omega,by have:=hlen.out;first|rfl|(rw [w64 (by omega) (by omega)];rfl),⟨HIj.out.below HB5.out⟩,HP3,⟨_,((HW3.out.below HBj.out).below HB5.out)⟩⟩
              · have HZ:=Aside0.mk (show ∀ W,Calls Try.prog 141 #[.agg #[.int .i64 s.f0,.int .i64 s.f1]] W fun e w'=>e=.returned (.bool false)∧Below W.heap.size W w' from fun W=>by have:=zeroS W s;rwa [show (s.f0 == 0)=false from by simpa using cs] at this)
                have hp2:=HP2.out
                rw [if_neg cs] at hp2
                have HP3:=Aside0.mk hp2
                clear cs hp2
                go_wp2_with (go_at_call 141;refine (HZ.out _).mono ?_;rintro e w5 ⟨rfl,hb⟩;have HI5:=Aside0.mk (HIj.out.below hb);have HW5:=Aside0.mk ((HW3.out.below HBj.out).below hb);have S:=HF.out.below hb;have s0:=S.c0;have s1:=S.c1;have r0:=qs_ hb hxj;have v2:=HI5.out.so.c2;clear S hb)
                have v3:(w5.alloc (.cells #[.string (encW l),.int .i64 s.f0,.int .i64 s.f1] 79)).cell? ⟨w1.heap.size,2,none⟩=some vo:=(HI5.out.so.alloc _).c2
                have HAL:=Aside0.mk (show acc.length≤1000000 from by
                  have h1:=prodO_len t u _ _ _ HP.out
                  obtain ⟨r,hr⟩:=wordsU_le d (show m≤n+1 by have:=HML.out;omega)
                  rw [wordsU_D] at hr
                  have h2:=wordsD_small d n HS.out.d3 HS.out.n8
                  rw [hr,List.length_append] at h2
                  have h3:=hlen.out
                  rw [List.length_append,List.length_take,List.length_nil] at h1
                  omega)
                refine wp_region_noPanic ?_
                go_region_law ((refine Kd.qe3_ k79 w.heap.size rfl (.tmp 92) (.tmp 99) 24 79 (.agg #[(.string ⟨#[]⟩),(.int .i64 0),(.int .i64 0)]) 32 rfl Try.underlying24 info79' rfl (by decide) (by omega) vo acc ⟨encW l,s⟩ [.string (encW l),.int .i64 s.f0,.int .i64 s.f1] (fun _=>True) (fun k=>some k ≠ vo.ownBlock) rfl rfl (k79_mkM _ _ _ ⟨encW l,s⟩) (fun _ h=>⟨trivial,h⟩) (fun _ _=>trivial) (Kd.R_drew HI5.out.ro) (qc_ HI5.out.be) HI5.out.be.size (by have:=HAL.out;omega) ?_;intro v6 w6 ho hb hg hat;have SO:=HI5.out.so.drew.grown hg (Kd.R_ne (Kd.R_drew HI5.out.ro) HI5.out.so.drew (by decide));have SX:=HI5.out.sx.drew.grown hg (Kd.R_ne (Kd.R_drew HI5.out.ro) HI5.out.sx.drew (by decide));have SY:=HI5.out.sy.drew.grown hg (Kd.R_ne (Kd.R_drew HI5.out.ro) HI5.out.sy.drew (by decide));have SR:=HI5.out.sr.drew.grown hg (Kd.R_ne (Kd.R_drew HI5.out.ro) HI5.out.sr.drew (by decide));obtain ⟨A6,c6,rfl⟩:=Kd.qa2_ ho;have HR6:=Aside0.mk ho;have HB6:=Aside0.mk hb;have HW6:=Aside0.mk (WordsAt.grown (Kd.R_drew HW5.out) (Kd.R_drew HI5.out.ro) hg);have u0:=SO.c2;have u1:=qd_ SO 2;have HSO:=Aside0.mk SO;have HSX:=Aside0.mk SX;have HSY:=Aside0.mk SY;have HSR:=Aside0.mk SR;clear SO SX SY SR ho hb hg hat))
                all_goals
                  refine NoPanic.normal ?_
                  go_wp2
                  go_roundg ((wordsN d m).length - (i+1))
                  case measure=>omega
                  case rel =>
                    have hlo:=HI5.out.lo
                    refine ⟨i+1,_,acc ++ [⟨encW l,s⟩],by omega,by omega,by have:=hlen.out;first|rfl|(rw [w64 (by omega) (by omega)];rfl),⟨⟨?_,?_,?_,HSO.out.put _,?_,?_,hlo⟩⟩,HP3,⟨_,Kd.R_set HW6.out HSO.out (by decide) 2 _⟩⟩
                    · exact HSX.out.far (by simp;omega) _
                    · exact HSY.out.far (by simp;omega) _
                    · exact HSR.out.far (by simp;omega) _
                    · have hh:=HR6.out
                      rw [List.length_append,List.length_singleton] at hh
                      exact Kd.R_set hh HSO.out (by decide) 2 _
                    · exact HB6.out.setCell (by simp;omega) _
        · have hiz:¬ (i:Int) < ((wordsN d m).length:Int):=by omega
          obtain rfl:i=(wordsN d m).length:=by omega
          have hp:=HP.out
          rw [List.take_length] at hp
          have HP2:=Aside0.mk (show prodO t u (wordsU d (m+1)) (some [])=some acc from hp)
          clear hp
          go_wp2
          go_roundg (n+1 - (m+1))
          case measure=>omega
          case rel=>exact ⟨m+1,vo,acc,by have:=HML.out;omega,by omega,by have:=HML.out;have:=HS.out.n8;first|rfl|(rw [w64 (by omega) (by omega)];rfl),HI,HP2⟩
    · have hz:¬ (m:Int)≤(n:Int):=by omega
      obtain rfl:m=n+1:=by omega
      have hp:=HP.out
      rw [wordsU_D] at hp
      have HRS:=Aside0.mk (show R=some acc from HRR.out.trans hp)
      obtain ⟨Av,cv,rfl⟩:=Kd.qa2_ HI.out.ro
      have z0:=HI.out.sx.c0
      have z1:=HI.out.sx.c1
      have y0:=HI.out.so.c0
      have y1:=HI.out.so.c1
      have y2:=HI.out.so.c2
      have x0:=HI.out.sr.c0
      have x1:=HI.out.sr.c1
      have x2:=HI.out.sr.c2
      have f0:=qd_ HI.out.sr 0
      have f1:=qd_ HI.out.sr 1
      have f2:=qd_ HI.out.sr 2
      have x0':wr.cell? ⟨w.heap.size+1+1,0,none⟩=some (.int .i64 0):=x0
      have x1':wr.cell? ⟨w.heap.size+1+1,1,none⟩=some (.int .i64 0):=x1
      have x2':wr.cell? ⟨w.heap.size+1+1,2,none⟩=some (.slice none 0 0):=x2
      have f0':wr.frozen? ⟨w.heap.size+1+1,0,none⟩=false:=f0
      have f1':wr.frozen? ⟨w.heap.size+1+1,1,none⟩=false:=f1
      have f2':wr.frozen? ⟨w.heap.size+1+1,2,none⟩=false:=f2
      clear hp
      go_wp2
      refine bodyPost_ret (results_ct rfl _ _ (w.heap.size+2) 38 _ (0,0) _ rfl (qr_ (qr_ (qr_ HI.out.sr 0 _) 1 _) 2 _) hu rfl (by kernel_rfl)) rfl ?_
      rw [HRS.out]
      refine ⟨_,rfl,?_,((HI.out.be.setCell (Nat.le_add_right _ 2) _).setCell (Nat.le_add_right _ 2) _).setCell (Nat.le_add_right _ 2) _⟩
      exact Kd.R_set (Kd.R_set (Kd.R_set HI.out.ro HI.out.sr (by decide) 0 _) (qr_ HI.out.sr 0 _) (by decide) 1 _) (qr_ (qr_ HI.out.sr 0 _) 1 _) (by decide) 2 _
end Go.Proofs.Ytaiefdhenikiiaa.Base
namespace Go.Proofs.Ytaiefdhenikiiaa.Base
open Go.RowKit Go.Proofs.YtaiefdhenikiiaaW.PrintWords Go.Proofs.YtaiefdhenikiiaaW.PrintLast Go.Proofs.YtaiefdhenikiiaaW.PrintMore
set_option linter.unusedVariables false
set_option linter.unusedSimpArgs false
theorem tk_lt {α:Type} (p:α→Bool):∀ (x:List α) (i:Nat) (h:i < (x.takeWhile p).length),∃ hx:i < x.length,p x[i]=true
  | [],i,h=>by simp at h
  | y :: x,i,h=>by
    by_cases c:p y=true
    · rw [List.takeWhile_cons_of_pos c] at h
      cases i with
      | zero=>exact ⟨by simp,by simpa using c⟩
      | succ i =>
        obtain ⟨h1,h2⟩:=tk_lt p x i (by simpa using h)
        exact ⟨by simpa using h1,by simpa using h2⟩
    · rw [List.takeWhile_cons_of_neg c] at h;simp at h
theorem tk_at {α:Type} (p:α→Bool):∀ (x:List α) (h:(x.takeWhile p).length < x.length),p x[(x.takeWhile p).length]=false
  | [],h=>by simp at h
  | y :: x,h=>by
    by_cases c:p y=true
    · have e:(y :: x).takeWhile p=y :: x.takeWhile p:=List.takeWhile_cons_of_pos c
      have h2:(x.takeWhile p).length < x.length:=by rw [e] at h;simpa using h
      have:=tk_at p x h2
      simp only [e,List.length_cons,List.getElem_cons_succ]
      exact this
    · have e:(y :: x).takeWhile p=[]:=List.takeWhile_cons_of_neg c
      simp only [e,List.length_nil,List.getElem_cons_zero]
      simpa using c
theorem befS (W:World) (u v:ByteArray) (b:Bool) (h:befW u v=b):Calls Try.prog 152 #[.string u,.string v] W fun e w'=>e=.returned (.bool b)∧Below W.heap.size W w':=by
  have hh:qh3_.f u v=some b:=by
    rw [← h]
    unfold qh3_.f befW
    by_cases c:(u.size:Int)=(v.size:Int)
    · rw [if_pos c,if_neg (by simpa using c)]
    · rw [if_neg c,if_pos c]
  refine (qh3_.calls _ _ b _ hh).mono ?_
  rintro e w' ⟨rfl,hd⟩
  exact ⟨rfl,hd.below⟩
theorem keepB4 {w W:World} {a1 a2 a3 a4:Addr} {v1 v2 v3 v4:Value} (p1:w.cell? a1=some v1) (p2:w.cell? a2=some v2) (p3:w.cell? a3=some v3) (p4:w.cell? a4=some v4) (hb:Below w.heap.size w W) :
    W.cell? a1=some v1∧W.cell? a2=some v2∧W.cell? a3=some v3∧W.cell? a4=some v4 :=
  ⟨qs_ hb p1,qs_ hb p2,qs_ hb p3,qs_ hb p4⟩
theorem FrAt.put4 {w:World} {b:Nat} {s:S77} (h:FrAt w b s) (a:S77):FrAt ((w.setCell ⟨b,0,none⟩ (.int .i64 a.f0)).setCell ⟨b,1,none⟩ (.int .i64 a.f1)) b a:=qr_ (qr_ h 0 _) 1 _
set_option maxHeartbeats 32000000 in
set_option maxRecDepth 100000 in
theorem putH (w:World) {A:Option Addr} {c:Nat} {l:List S79} (H:TmsC w A c l) (hl:okL l) (s:ByteArray) {a:S77} (ha:okF a):Calls Try.prog 158 #[.slice A l.length c,.string s,.agg #[.int .i64 a.f0,.int .i64 a.f1]] w fun e w'=>∃ v:Value,e=.returned (.tuple #[v,.bool (tellL (putL l s a)).2])∧TermsR w' w.heap.size v (tellL (putL l s a)).1∧Below w.heap.size w w':=by
  have hu3:=Try.underlying77
  have HA:=Aside0.mk H
  have HOL:=Aside0.mk hl
  have HOA:=Aside0.mk ha
  obtain ⟨i79,hi79,_,hsz79,_⟩:=info_parts info79
  obtain ⟨R,hR⟩:∃ R,R=tellL (putL l s a):=⟨_,rfl⟩
  rw [← hR]
  obtain ⟨P,hP⟩:∃ P,P=putAt l s:=⟨_,rfl⟩
  have HPL:=Aside0.mk (show P≤l.length by rw [hP];exact (List.takeWhile_sublist _).length_le)
  have HB1:=Aside0.mk (show ∀ i,i < P→∃ h:i < l.length,befW l[i].f0 s=true from fun i hi=>tk_lt (fun y:S79=>befW y.f0 s) l i (by rw [hP] at hi;exact hi))
  have HB2:=Aside0.mk (show ∀ h:P < l.length,befW l[P].f0 s=false from fun h=>by subst hP;exact tk_at (fun y:S79=>befW y.f0 s) l h)
  have HN:=Aside0.mk (show l[P]?=none→R=(l.take P ++ (if a.f0=0 then [] else [⟨s,a⟩]) ++ l.drop P,true) from fun h=>by
    rw [hR];unfold putL;rw [← hP,h];rfl)
  have HS1:=Aside0.mk (show ∀ (h:P < l.length),¬ l[P].f0=s→R=(l.take P ++ (if a.f0=0 then [] else [⟨s,a⟩]) ++ l.drop P,true) from fun h hn=>by
    rw [hR];unfold putL;rw [← hP,List.getElem?_eq_getElem h];simp only [if_neg hn];rfl)
  have HS2:=Aside0.mk (show ∀ (h:P < l.length),l[P].f0=s→(plusM l[P].f1 a).2=true→R=(l.take P ++ (if (plusM l[P].f1 a).1.f0=0 then [] else [⟨s,(plusM l[P].f1 a).1⟩]) ++ l.drop (P+1),true) from fun h hn h2=>by
    rw [hR];unfold putL;rw [← hP,List.getElem?_eq_getElem h];simp only [if_pos hn,if_pos h2];rfl)
  have HS3:=Aside0.mk (show ∀ (h:P < l.length),l[P].f0=s→(plusM l[P].f1 a).2=false→R=([],false) from fun h hn h2=>by
    rw [hR];unfold putL;rw [← hP,List.getElem?_eq_getElem h];simp only [if_pos hn,h2,Bool.false_eq_true,if_false];rfl)
  have HDR:=Aside0.mk (show ∀ q:Nat,q≤l.length→∃ (A2:Option Addr) (c2:Nat),(∀ W:World,(Instr.slice 24 (.slice A l.length c) (some (.int .i64 (q:Int))) none none).run Try.prog W=.ok (.slice A2 (l.drop q).length c2) W)∧Kd.C k79 w A2 (l.drop q).length (l.drop q) from fun q hq=>by
    have h1:=cut_from (P:=Try.prog) 24 79 .i64 Try.underlying24 hi79 3 hsz79 A l.length c (q:Int) (by omega) (by omega)
    have h2:=Kd.C_drop (m:=q) H.row hq H.cap
    rw [Int.toNat_natCast,← List.length_drop] at h1
    exact ⟨_,_,h1,h2⟩)
  have HCT:=Aside0.mk (show ∀ q:Nat,q≤l.length→∀ W:World,(Instr.slice 24 (.slice A l.length c) none (some (.int .i64 (q:Int))) none).run Try.prog W=.ok (.slice A (l.take q).length c) W from fun q hq=>by
    have h1:=cut_to (P:=Try.prog) 24 79 .i64 Try.underlying24 hi79 A l.length c (q:Int) (by omega) (by omega) H.cap
    rw [show (l.take q).length=q by rw [List.length_take];omega]
    rwa [Int.toNat_natCast] at h1)
  clear H hl ha hR hP
  go_enter Try.func158,Try.ntmps158
  go_wp2
  generalize hW:World.alloc _ _=W0
  have HF0:=Aside0.mk (show FrAt W0 w.heap.size a from by rw [← hW];exact FrAt.new _ _)
  have HB0:=Aside0.mk (show Below w.heap.size w W0 from by rw [← hW];exact qb_ (Below.refl _ _) _)
  clear hW
  go_loopg [8] (P+1) (fun gg v8 wr=>∃ i:Nat,i≤P∧P+1 - i≤gg∧v8=.int .i64 i∧Aside0 (Below W0.heap.size W0 wr))
  case atStart=>exact ⟨0,Nat.zero_le _,by omega,rfl,⟨Below.refl _ _⟩⟩
  case round =>
    obtain ⟨i,hi,hg,rfl,HBr⟩:=hrel
    have HBw:=Aside0.mk (qe_ HB0.out HBr.out)
    by_cases hip:i < P
    · obtain ⟨hlt,hbe⟩:=HB1.out i hip
      have hltz:(i:Int) < (l.length:Int):=by omega
      obtain ⟨ad,rfl,t0,t1,t2⟩:=at_T79 (Kd.qw1_ HA.out.row HBw.out) (i:Int) (by omega) (by omega)
      have e1:rd_T79 l (i:Int)=l[i]:=by simp [rd_T79,List.getD_eq_getElem?_getD,List.getElem?_eq_getElem hlt]
      rw [e1,Int.toNat_natCast] at t0 t1 t2
      have HBE:=Aside0.mk hbe
      have HPB:=Aside0.mk (show l.length≤1048576 from HA.out.len)
      clear hbe e1
      go_wp2_with (go_at_call 152;refine (befS _ _ _ true HBE.out).mono ?_;rintro e w1 ⟨rfl,hb⟩;have HBn:=Aside0.mk (qe_ HBr.out hb);clear hb)
      go_roundg (P+1 - (i+1))
      case measure=>omega
      case rel=>exact ⟨i+1,by omega,by omega,by have:=HPB.out;first|rfl|(rw [w64 (by omega) (by omega)];rfl),HBn⟩
    · obtain rfl:i=P:=by omega
      have hpl:=HPL.out
      have hpz:(i:Int)≤(l.length:Int):=by omega
      have hcut1:=HCT.out i hpl
      obtain ⟨tl,htl⟩:∃ x,x=l.take i:=⟨_,rfl⟩
      rw [← htl] at hcut1
      have HTL:=Aside0.mk (show Kd.C k79 w A tl.length tl from by rw [htl];exact Kd.C_take HA.out.row hpl)
      have HTLL:=Aside0.mk (show tl.length≤1048576 from by rw [htl,List.length_take];have:=HA.out.len;omega)
      have HTE:=Aside0.mk htl
      clear htl
      have HFr:=Aside0.mk (HF0.out.below HBr.out)
      by_cases hlt:i < l.length
      · have hltz:(i:Int) < (l.length:Int):=by omega
        obtain ⟨ad,hA1,t0,t1,t2⟩:=at_T79 (Kd.qw1_ HA.out.row HBw.out) (i:Int) (by omega) (by omega)
        subst hA1
        have e1:rd_T79 l (i:Int)=l[i]:=by simp [rd_T79,List.getD_eq_getElem?_getD,List.getElem?_eq_getElem hlt]
        rw [e1,Int.toNat_natCast] at t0 t1 t2
        have HBE:=Aside0.mk (HB2.out hlt)
        have HT0:=Aside0.mk (show ∀ W,Below w.heap.size w W→W.cell? (ad.add (i * 3))=some (.string l[i].f0)∧W.cell? ⟨(ad.add (i * 3)).block,(ad.add (i * 3)).off+1,none⟩=some (.int .i64 l[i].f1.f0)∧W.cell? ⟨(ad.add (i * 3)).block,(ad.add (i * 3)).off+2,none⟩=some (.int .i64 l[i].f1.f1) from fun W hW=>by
          obtain ⟨ad2,hA2,u0,u1,u2⟩:=at_T79 (Kd.qw1_ HA.out.row hW) (i:Int) (by omega) (by omega)
          obtain rfl:=Option.some.inj hA2
          rw [e1,Int.toNat_natCast] at u0 u1 u2
          exact ⟨u0,u1,u2⟩)
        clear e1
        by_cases ceq:l[i].f0=s
        · have ceq2:(l[i].f0.toList == s.toList)=true:=by rw [ceq];simp
          obtain ⟨z,hz⟩:∃ z,z=l[i].f1:=⟨_,rfl⟩
          have HOZ:=Aside0.mk (show okF z by rw [hz];exact HOL.out _ (List.getElem_mem hlt))
          have HT:=Aside0.mk (HS2.out hlt ceq)
          have HT3:=Aside0.mk (HS3.out hlt ceq)
          rw [← hz] at HT HT3 HT0 t1 t2
          clear hz ceq
          go_wp2_with (first
            | (go_at_call 152;refine (befS _ _ _ false HBE.out).mono ?_;rintro e w1 ⟨rfl,hb⟩;have HBQ:=Aside0.mk (qe_ HBw.out hb);have HFQ:=Aside0.mk (FrAt.below HFr.out hb);clear hb)
            | ((with_reducible refine qf1_ (N:=27) rfl ?_);refine Kd.R_lit k79 _ 79 ?hg (N:=27) ?hd (xs:=([]:List S79)) (inner:=[]) (ok:=fun _=>True) (okp:=fun _=>True) ?hr ?hp (fun _ hk=>hk) trivial (Below.refl _ _) (Nat.le_refl _) (by simp) ?_;(case hd=>rfl);(case hg=>rfl);(case hr=>first|(go_simp;done)|(go_simp;rfl));(case hp=>exact (Reps.none _ _));intro v3 w3 ho hb hg hnew;clear hg hnew;have HF3:=Aside0.mk (FrAt.below HFQ.out hb);have HB3:=Aside0.mk (qe_ HBQ.out hb);have HO3:=Aside0.mk (show TermsR w3 w.heap.size v3 [] from Kd.qi2_ ho HBQ.out.size);clear ho hb)
            | ((with_reducible refine qg2_ (b:=.append) (xs:=#[.tmp 27,.tmp 30]) rfl ?_);at_builtin;refine Kd.qn2_ k79 (w0:=w) w.heap.size rfl (.tmp 27) (.tmp 30) 24 79 (.agg #[(.string ⟨#[]⟩),(.int .i64 0),(.int .i64 0)]) 32 rfl Try.underlying24 info79' rfl (by decide) (by omega) v3 ([]:List S79) tl _ _ _ (fun _=>True) (fun _=>False) rfl rfl ?aO ?aR (fun _ _ h=>h) (fun _ h=>h.elim) ?aF ?aB ?aS ?aL ?_;(case aR=>exact Kd.qw1_ HTL.out HB3.out);(case aB=>exact HB3.out);(case aF=>exact (fun _ _=>trivial));(case aO=>exact HO3.out);(case aS=>exact qk_ HB3.out);(case aL=>have:=HTLL.out;rw [List.length_nil];omega);intro v4 w4 ho hb hg hat;rw [List.nil_append,HTE.out] at ho;have HF4:=Aside0.mk (show FrAt w4 w.heap.size a from qg3_ HF3.out hg (Kd.R_ne HO3.out HF3.out (by decide)));have HB4:=Aside0.mk hb;have HO4:=Aside0.mk ho;have x0:=HF4.out.c0;have x1:=HF4.out.c1;obtain ⟨u0,u1,u2⟩:=HT0.out _ HB4.out;clear ho hb hg hat))
          obtain ⟨f,hf⟩:∃ f,f=tellF (plusM z a):=⟨_,rfl⟩
          obtain ⟨ok,hok⟩:∃ ok,ok=(plusM z a).2:=⟨_,rfl⟩
          have HTM:=Aside0.mk (show ∀ W,Calls Try.prog 187 #[.agg #[.int .i64 z.f0,.int .i64 z.f1],.agg #[.int .i64 a.f0,.int .i64 a.f1]] W fun e w'=>e=.returned (.tuple #[.agg #[.int .i64 f.f0,.int .i64 f.f1],.bool ok])∧Below W.heap.size W w' from fun W=>by rw [hf,hok];exact plusFS W HOZ.out HOA.out)
          have HFF:=Aside0.mk hf
          have HOK:=Aside0.mk hok
          clear hf hok t0 t1 t2
          obtain ⟨w5,hw5⟩:∃ x,x=w4:=⟨_,rfl⟩
          go_cut [10,11] (fun v10 v11 wx=>∃ b9:Nat,v10=.pointer (some ⟨b9,0,none⟩)∧v11=.bool ok∧Aside0 (FrAt wx b9 f)∧Aside0 (Below w4.heap.size w4 wx)∧Aside0 (w4.heap.size≤b9))
          case first =>
            go_region_held3 (fun w'=>w'.cell? ⟨(ad.add (i * 3)).block,(ad.add (i * 3)).off+1,none⟩=some (.int .i64 z.f0)∧w'.cell? ⟨(ad.add (i * 3)).block,(ad.add (i * 3)).off+2,none⟩=some (.int .i64 z.f1)∧w'.cell? ⟨w.heap.size,0,none⟩=some (.int .i64 a.f0)∧w'.cell? ⟨w.heap.size,1,none⟩=some (.int .i64 a.f1)) (exact keepB4 u1 u2 x0 x1 (by (repeat' (first|(with_reducible exact Below.refl _ _)|(with_reducible exact HB6.out)|(with_reducible refine Below.setCell ?_ ?_ _)|(with_reducible refine qc_ ?_)|(with_reducible refine qa_ ?_ _)|(with_reducible refine qb_ ?_ _)|(simp;done)|(simp;omega)|(have:=HB6.out.size;simp;omega))))) (first|(go_at_call 187;refine (HTM.out _).mono ?_;rintro e w6 ⟨rfl,hb⟩;have HB6:=Aside0.mk (show Below w4.heap.size w4 w6 from qe_ (by repeat (first|(with_reducible exact Below.refl _ _)|(with_reducible refine qc_ ?_)|(with_reducible refine qa_ ?_ _)|(with_reducible refine qb_ ?_ _))) hb);first|(refine (fun (Z:w6.heap[w4.heap.size]?=some (.cells #[.int .i64 0,.int .i64 0] 77 (0,0)))=>?_) (ql_ ?_ hb);rotate_left;(first|exact drew_at (new_at rfl)|exact new_at rfl);have HZZ:=Aside0.mk Z;have z0:=qj_ Z 0;have z1:=qj_ Z 1;have zf0:=qd_ Z 0;have zf1:=qd_ Z 1;clear Z hb)|(clear hb)))
            all_goals
              go_wp2_with fail
              go_meet
              case rel =>
                refine ⟨_,rfl,rfl,⟨?_⟩,⟨?_⟩,⟨?_⟩⟩
                · (repeat' (first|((with_reducible refine FrAt.new' ?_ _);simp;done)|(with_reducible refine FrAt.put2 ?_ _)|(with_reducible exact HZZ.out)|(with_reducible refine FrAt.drewN ?_ _)|(with_reducible refine FrAt.drew ?_)|(with_reducible refine FrAt.alloc ?_ _)|((with_reducible refine FrAt.far ?_ ?_ _);rotate_left;(focus (first|(simp;done)|(simp;omega))))|(with_reducible refine drewN_at ?_)|(with_reducible refine drew_at ?_)|((with_reducible refine new_at ?_);simp;done)|(with_reducible refine old_at ?_)|((with_reducible refine qb2_ ?_ ?_ _);rotate_left;(focus (first|(simp;done)|(simp;omega))))))
                · (repeat' (first|(with_reducible exact Below.refl _ _)|(with_reducible exact HB6.out)|(with_reducible refine Below.setCell ?_ ?_ _)|(with_reducible refine qc_ ?_)|(with_reducible refine qa_ ?_ _)|(with_reducible refine qb_ ?_ _)|(simp;done)|(simp;omega)|(have:=HB6.out.size;simp;omega)))
                · (have h6_:=HB6.out.size;first|(simp;done)|(simp;omega)|omega)
          case rest =>
            obtain ⟨b9,rfl,rfl,HF9,HM9,HL9⟩:=hcut
            have HB9:=Aside0.mk (qe_ HB4.out HM9.out)
            have HO9:=Aside0.mk (Kd.qe2_ HO4.out HM9.out)
            have HA9:=Aside0.mk (HF4.out.below HM9.out)
            clear x0 x1 u0 u1 u2
            cases ok with
            | false =>
              have HV:=Aside0.mk (HT3.out HOK.out.symm)
              go_wp2
              go_returns
              rw [HV.out]
              exact ⟨_,rfl,Kd.R_nil _ _ _ _ _,HB9.out⟩
            | true =>
              have HV:=Aside0.mk (HT.out HOK.out.symm)
              have hfe:f=(plusM z a).1:=by rw [HFF.out];unfold tellF;rw [← HOK.out];rfl
              rw [← hfe] at HV
              have g0:=HF9.out.c0
              have g1:=HF9.out.c1
              have k0:=HA9.out.c0
              have k1:=HA9.out.c1
              have kf0:=qd_ HA9.out 0
              have kf1:=qd_ HA9.out 1
              obtain ⟨q,hq⟩:∃ q,q=i+1:=⟨_,rfl⟩
              have hqz:IntKind.i64.wrap ((i:Int)+1)=(q:Int):=by rw [i64_w,w64 (by omega) (by have:=HA.out.len;omega),hq];rfl
              have hqw:wrap64 ((i:Int)+1)=(q:Int):=by rw [w64 (by omega) (by have:=HA.out.len;omega),hq];rfl
              have hql:q≤l.length:=by omega
              rw [← hq] at HV
              clear hfe hq
              go_upto_region 11 with fail
              generalize hW:World.setCell (World.setCell wc _ _) _ _=W1
              have HFX:=Aside0.mk (show FrAt W1 w.heap.size f from by rw [← hW];exact FrAt.put4 HA9.out f)
              have HBX:=Aside0.mk (show Below w.heap.size w W1 from by rw [← hW];exact (HB9.out.setCell (Nat.le_refl _) _).setCell (Nat.le_refl _) _)
              have HOX:=Aside0.mk (show TermsR W1 w.heap.size v4 (l.take i) from by rw [← hW];exact Kd.R_set (Kd.R_set HO9.out HA9.out (by decide) 0 _) (qr_ HA9.out 0 _) (by decide) 1 _)
              have x0:=HFX.out.c0
              have x1:=HFX.out.c1
              clear hW g0 g1 k0 k1 kf0 kf1
              obtain ⟨A2,c2,hcut2,hr2⟩:=HDR.out q (by omega)
              obtain ⟨rl,hrl⟩:∃ x,x=l.drop q:=⟨_,rfl⟩
              rw [← hrl] at hcut2 hr2
              have HR2:=Aside0.mk hr2
              have HRL:=Aside0.mk hrl
              have HRLL:=Aside0.mk (show rl.length≤1048576 by rw [hrl,List.length_drop];have:=HA.out.len;omega)
              clear hr2 hrl
              by_cases cz:f.f0=0
              · have HZ:=Aside0.mk (show ∀ W,Calls Try.prog 141 #[.agg #[.int .i64 f.f0,.int .i64 f.f1]] W fun e w'=>e=.returned (.bool true)∧Below W.heap.size W w' from fun W=>by have:=zeroS W f;rwa [show (f.f0 == 0)=true from by rw [cz];rfl] at this)
                have HV:=Aside0.mk (show R=(l.take i ++ rl,true) from by rw [HV.out,if_pos cz,List.append_nil,HRL.out])
                clear cz
                go_wp2_with (first
                  | (go_at_call 141;refine (HZ.out _).mono ?_;rintro e w8 ⟨rfl,hb⟩;have HB8:=Aside0.mk (qe_ HBX.out hb);have HO8:=Aside0.mk (Kd.qe2_ HOX.out hb);clear hb)
                  | ((with_reducible refine qg2_ (b:=.append) (xs:=#[.tmp 69,.tmp 72]) rfl ?_);at_builtin;refine Kd.qn2_ k79 (w0:=w) w.heap.size rfl (.tmp 69) (.tmp 72) 24 79 (.agg #[(.string ⟨#[]⟩),(.int .i64 0),(.int .i64 0)]) 32 rfl Try.underlying24 info79' rfl (by decide) (by omega) v4 (l.take i) rl _ _ _ (fun _=>True) (fun _=>False) rfl rfl ?aO ?aR (fun _ _ h=>h) (fun _ h=>h.elim) ?aF ?aB ?aS ?aL ?_;(case aR=>exact Kd.qw1_ HR2.out HB8.out);(case aB=>exact HB8.out);(case aF=>exact (fun _ _=>trivial));(case aO=>exact HO8.out);(case aS=>exact qk_ HB8.out);(case aL=>have:=HRLL.out;have:=HA.out.len;rw [List.length_take];omega);intro v9 w9 ho hb hg hat;have HB9:=Aside0.mk hb;have HO9:=Aside0.mk ho;clear ho hb hg hat))
                go_returns
                rw [HV.out]
                exact ⟨_,rfl,HO9.out,HB9.out⟩
              · have HZ:=Aside0.mk (show ∀ W,Calls Try.prog 141 #[.agg #[.int .i64 f.f0,.int .i64 f.f1]] W fun e w'=>e=.returned (.bool false)∧Below W.heap.size W w' from fun W=>by have:=zeroS W f;rwa [show (f.f0 == 0)=false from by simpa using cz] at this)
                have HV:=Aside0.mk (show R=(l.take i ++ [⟨s,f⟩] ++ rl,true) from by rw [HV.out,if_neg cz,HRL.out])
                clear cz
                go_wp2_with (first
                  | (go_at_call 141;refine (HZ.out _).mono ?_;rintro e w8 ⟨rfl,hb⟩;have HB8:=Aside0.mk (qe_ HBX.out hb);have HO8:=Aside0.mk (Kd.qe2_ HOX.out hb);have F8:=FrAt.below HFX.out hb;have y0:=F8.c0;have y1:=F8.c1;clear F8 hb)
                  | ((with_reducible refine qg2_ (b:=.append) (xs:=#[.tmp 63,.tmp 67]) rfl ?_);at_builtin;refine Kd.R_append k79 (w0:=w) w.heap.size rfl (.tmp 63) (.tmp 67) 24 79 (.agg #[(.string ⟨#[]⟩),(.int .i64 0),(.int .i64 0)]) 32 rfl Try.underlying24 info79' rfl (by decide) (by omega) v4 (l.take i) ⟨s,f⟩ [.string s,.int .i64 f.f0,.int .i64 f.f1] (fun _=>True) (fun _=>False) rfl rfl ?aP (fun _ hk=>hk.elim) ?aF ?aO ?aB ?aS ?aL ?_;(case aP=>exact k79_mkM _ _ _ ⟨s,f⟩);(case aB=>exact HB8.out);(case aF=>exact (fun _ _=>trivial));(case aO=>exact HO8.out);(case aS=>exact (qk_ HB8.out));(case aL=>have:=HA.out.len;rw [List.length_take];omega);intro v7 w7 ho hb hg hat;have HB7:=Aside0.mk hb;have HO7:=Aside0.mk ho;clear ho hb hg hat)
                  | ((with_reducible refine qg2_ (b:=.append) (xs:=#[.tmp 69,.tmp 72]) rfl ?_);at_builtin;refine Kd.qn2_ k79 (w0:=w) w.heap.size rfl (.tmp 69) (.tmp 72) 24 79 (.agg #[(.string ⟨#[]⟩),(.int .i64 0),(.int .i64 0)]) 32 rfl Try.underlying24 info79' rfl (by decide) (by omega) v7 (l.take i ++ [⟨s,f⟩]) rl _ _ _ (fun _=>True) (fun _=>False) rfl rfl ?aO ?aR (fun _ _ h=>h) (fun _ h=>h.elim) ?aF ?aB ?aS ?aL ?_;(case aR=>exact Kd.qw1_ HR2.out HB7.out);(case aB=>exact HB7.out);(case aF=>exact (fun _ _=>trivial));(case aO=>exact HO7.out);(case aS=>exact qk_ HB7.out);(case aL=>have:=HRLL.out;have:=HA.out.len;rw [List.length_append,List.length_take,List.length_singleton];omega);intro v9 w9 ho hb hg hat;have HB9:=Aside0.mk hb;have HO9:=Aside0.mk ho;clear ho hb hg hat))
                all_goals
                  go_returns
                  rw [HV.out]
                  exact ⟨_,rfl,HO9.out,HB9.out⟩
        · have ceq2:(l[i].f0.toList == s.toList)=false:=by
            rw [beq_eq_false_iff_ne]
            intro h;rw [ByteArray.toList_eq,ByteArray.toList_eq] at h;exact ceq (ByteArray.ext (Array.toList_inj.1 h))
          have HV0:=Aside0.mk (HS1.out hlt ceq)
          clear ceq
          go_upto_region 11 with (first
            | (go_at_call 152;refine (befS _ _ _ false HBE.out).mono ?_;rintro e w1 ⟨rfl,hb⟩;have HBQ:=Aside0.mk (qe_ HBw.out hb);have HFQ:=Aside0.mk (FrAt.below HFr.out hb);clear hb)
            | ((with_reducible refine qf1_ (N:=27) rfl ?_);refine Kd.R_lit k79 _ 79 ?hg (N:=27) ?hd (xs:=([]:List S79)) (inner:=[]) (ok:=fun _=>True) (okp:=fun _=>True) ?hr ?hp (fun _ hk=>hk) trivial (Below.refl _ _) (Nat.le_refl _) (by simp) ?_;(case hd=>rfl);(case hg=>rfl);(case hr=>first|(go_simp;done)|(go_simp;rfl));(case hp=>exact (Reps.none _ _));intro v3 w3 ho hb hg hnew;clear hg hnew;have HF3:=Aside0.mk (FrAt.below HFQ.out hb);have HB3:=Aside0.mk (qe_ HBQ.out hb);have HO3:=Aside0.mk (show TermsR w3 w.heap.size v3 [] from Kd.qi2_ ho HBQ.out.size);clear ho hb)
            | ((with_reducible refine qg2_ (b:=.append) (xs:=#[.tmp 27,.tmp 30]) rfl ?_);at_builtin;refine Kd.qn2_ k79 (w0:=w) w.heap.size rfl (.tmp 27) (.tmp 30) 24 79 (.agg #[(.string ⟨#[]⟩),(.int .i64 0),(.int .i64 0)]) 32 rfl Try.underlying24 info79' rfl (by decide) (by omega) v3 ([]:List S79) tl _ _ _ (fun _=>True) (fun _=>False) rfl rfl ?aO ?aR (fun _ _ h=>h) (fun _ h=>h.elim) ?aF ?aB ?aS ?aL ?_;(case aR=>exact Kd.qw1_ HTL.out HB3.out);(case aB=>exact HB3.out);(case aF=>exact (fun _ _=>trivial));(case aO=>exact HO3.out);(case aS=>exact qk_ HB3.out);(case aL=>have:=HTLL.out;rw [List.length_nil];omega);intro v4 w4 ho hb hg hat;rw [List.nil_append,HTE.out] at ho;have HF4:=Aside0.mk (show FrAt w4 w.heap.size a from qg3_ HF3.out hg (Kd.R_ne HO3.out HF3.out (by decide)));have HB4:=Aside0.mk hb;have HO4:=Aside0.mk ho;have x0:=HF4.out.c0;have x1:=HF4.out.c1;obtain ⟨u0,u1,u2⟩:=HT0.out _ HB4.out;clear ho hb hg hat))
          obtain ⟨A2,c2,hcut2,hr2⟩:=HDR.out i (by omega)
          obtain ⟨rl,hrl⟩:∃ x,x=l.drop i:=⟨_,rfl⟩
          rw [← hrl] at hcut2 hr2
          have HR2:=Aside0.mk hr2
          have HRL:=Aside0.mk hrl
          have HRLL:=Aside0.mk (show rl.length≤1048576 by rw [hrl,List.length_drop];have:=HA.out.len;omega)
          clear hr2 hrl
          by_cases cz:a.f0=0
          · have HZ:=Aside0.mk (show ∀ W,Calls Try.prog 141 #[.agg #[.int .i64 a.f0,.int .i64 a.f1]] W fun e w'=>e=.returned (.bool true)∧Below W.heap.size W w' from fun W=>by have:=zeroS W a;rwa [show (a.f0 == 0)=true from by rw [cz];rfl] at this)
            have HV:=Aside0.mk (show R=(l.take i ++ rl,true) from by rw [HV0.out,if_pos cz,List.append_nil,HRL.out])
            clear cz
            go_wp2_with (first
              | (go_at_call 141;refine (HZ.out _).mono ?_;rintro e w8 ⟨rfl,hb⟩;have HB8:=Aside0.mk (qe_ HB4.out hb);have HO8:=Aside0.mk (Kd.qe2_ HO4.out hb);clear hb)
              | ((with_reducible refine qg2_ (b:=.append) (xs:=#[.tmp 69,.tmp 72]) rfl ?_);at_builtin;refine Kd.qn2_ k79 (w0:=w) w.heap.size rfl (.tmp 69) (.tmp 72) 24 79 (.agg #[(.string ⟨#[]⟩),(.int .i64 0),(.int .i64 0)]) 32 rfl Try.underlying24 info79' rfl (by decide) (by omega) v4 (l.take i) rl _ _ _ (fun _=>True) (fun _=>False) rfl rfl ?aO ?aR (fun _ _ h=>h) (fun _ h=>h.elim) ?aF ?aB ?aS ?aL ?_;(case aR=>exact Kd.qw1_ HR2.out HB8.out);(case aB=>exact HB8.out);(case aF=>exact (fun _ _=>trivial));(case aO=>exact HO8.out);(case aS=>exact qk_ HB8.out);(case aL=>have:=HRLL.out;have:=HA.out.len;rw [List.length_take];omega);intro v9 w9 ho hb hg hat;have HB9:=Aside0.mk hb;have HO9:=Aside0.mk ho;clear ho hb hg hat))
            go_returns
            rw [HV.out]
            exact ⟨_,rfl,HO9.out,HB9.out⟩
          · have HZ:=Aside0.mk (show ∀ W,Calls Try.prog 141 #[.agg #[.int .i64 a.f0,.int .i64 a.f1]] W fun e w'=>e=.returned (.bool false)∧Below W.heap.size W w' from fun W=>by have:=zeroS W a;rwa [show (a.f0 == 0)=false from by simpa using cz] at this)
            have HV:=Aside0.mk (show R=(l.take i ++ [⟨s,a⟩] ++ rl,true) from by rw [HV0.out,if_neg cz,HRL.out])
            clear cz
            go_wp2_with (first
              | (go_at_call 141;refine (HZ.out _).mono ?_;rintro e w8 ⟨rfl,hb⟩;have HB8:=Aside0.mk (qe_ HB4.out hb);have HO8:=Aside0.mk (Kd.qe2_ HO4.out hb);have F8:=FrAt.below HF4.out hb;have y0:=F8.c0;have y1:=F8.c1;clear F8 hb)
              | ((with_reducible refine qg2_ (b:=.append) (xs:=#[.tmp 63,.tmp 67]) rfl ?_);at_builtin;refine Kd.R_append k79 (w0:=w) w.heap.size rfl (.tmp 63) (.tmp 67) 24 79 (.agg #[(.string ⟨#[]⟩),(.int .i64 0),(.int .i64 0)]) 32 rfl Try.underlying24 info79' rfl (by decide) (by omega) v4 (l.take i) ⟨s,a⟩ [.string s,.int .i64 a.f0,.int .i64 a.f1] (fun _=>True) (fun _=>False) rfl rfl ?aP (fun _ hk=>hk.elim) ?aF ?aO ?aB ?aS ?aL ?_;(case aP=>exact k79_mkM _ _ _ ⟨s,a⟩);(case aB=>exact HB8.out);(case aF=>exact (fun _ _=>trivial));(case aO=>exact HO8.out);(case aS=>exact (qk_ HB8.out));(case aL=>have:=HA.out.len;rw [List.length_take];omega);intro v7 w7 ho hb hg hat;have HB7:=Aside0.mk hb;have HO7:=Aside0.mk ho;clear ho hb hg hat)
              | ((with_reducible refine qg2_ (b:=.append) (xs:=#[.tmp 69,.tmp 72]) rfl ?_);at_builtin;refine Kd.qn2_ k79 (w0:=w) w.heap.size rfl (.tmp 69) (.tmp 72) 24 79 (.agg #[(.string ⟨#[]⟩),(.int .i64 0),(.int .i64 0)]) 32 rfl Try.underlying24 info79' rfl (by decide) (by omega) v7 (l.take i ++ [⟨s,a⟩]) rl _ _ _ (fun _=>True) (fun _=>False) rfl rfl ?aO ?aR (fun _ _ h=>h) (fun _ h=>h.elim) ?aF ?aB ?aS ?aL ?_;(case aR=>exact Kd.qw1_ HR2.out HB7.out);(case aB=>exact HB7.out);(case aF=>exact (fun _ _=>trivial));(case aO=>exact HO7.out);(case aS=>exact qk_ HB7.out);(case aL=>have:=HRLL.out;have:=HA.out.len;rw [List.length_append,List.length_take,List.length_singleton];omega);intro v9 w9 ho hb hg hat;have HB9:=Aside0.mk hb;have HO9:=Aside0.mk ho;clear ho hb hg hat))
            all_goals
              go_returns
              rw [HV.out]
              exact ⟨_,rfl,HO9.out,HB9.out⟩
      · have hltz:¬ (i:Int) < (l.length:Int):=by omega
        have HV0:=Aside0.mk (HN.out (List.getElem?_eq_none (by omega)))
        have HBQ:=HBw
        have HFQ:=HFr
        go_upto_region 11 with (first
          | ((with_reducible refine qf1_ (N:=27) rfl ?_);refine Kd.R_lit k79 _ 79 ?hg (N:=27) ?hd (xs:=([]:List S79)) (inner:=[]) (ok:=fun _=>True) (okp:=fun _=>True) ?hr ?hp (fun _ hk=>hk) trivial (Below.refl _ _) (Nat.le_refl _) (by simp) ?_;(case hd=>rfl);(case hg=>rfl);(case hr=>first|(go_simp;done)|(go_simp;rfl));(case hp=>exact (Reps.none _ _));intro v3 w3 ho hb hg hnew;clear hg hnew;have HF3:=Aside0.mk (FrAt.below HFQ.out hb);have HB3:=Aside0.mk (qe_ HBQ.out hb);have HO3:=Aside0.mk (show TermsR w3 w.heap.size v3 [] from Kd.qi2_ ho HBQ.out.size);clear ho hb)
          | ((with_reducible refine qg2_ (b:=.append) (xs:=#[.tmp 27,.tmp 30]) rfl ?_);at_builtin;refine Kd.qn2_ k79 (w0:=w) w.heap.size rfl (.tmp 27) (.tmp 30) 24 79 (.agg #[(.string ⟨#[]⟩),(.int .i64 0),(.int .i64 0)]) 32 rfl Try.underlying24 info79' rfl (by decide) (by omega) v3 ([]:List S79) tl _ _ _ (fun _=>True) (fun _=>False) rfl rfl ?aO ?aR (fun _ _ h=>h) (fun _ h=>h.elim) ?aF ?aB ?aS ?aL ?_;(case aR=>exact Kd.qw1_ HTL.out HB3.out);(case aB=>exact HB3.out);(case aF=>exact (fun _ _=>trivial));(case aO=>exact HO3.out);(case aS=>exact qk_ HB3.out);(case aL=>have:=HTLL.out;rw [List.length_nil];omega);intro v4 w4 ho hb hg hat;rw [List.nil_append,HTE.out] at ho;have HF4:=Aside0.mk (show FrAt w4 w.heap.size a from qg3_ HF3.out hg (Kd.R_ne HO3.out HF3.out (by decide)));have HB4:=Aside0.mk hb;have HO4:=Aside0.mk ho;have x0:=HF4.out.c0;have x1:=HF4.out.c1; clear ho hb hg hat))
        obtain ⟨A2,c2,hcut2,hr2⟩:=HDR.out i (by omega)
        obtain ⟨rl,hrl⟩:∃ x,x=l.drop i:=⟨_,rfl⟩
        rw [← hrl] at hcut2 hr2
        have HR2:=Aside0.mk hr2
        have HRL:=Aside0.mk hrl
        have HRLL:=Aside0.mk (show rl.length≤1048576 by rw [hrl,List.length_drop];have:=HA.out.len;omega)
        clear hr2 hrl
        by_cases cz:a.f0=0
        · have HZ:=Aside0.mk (show ∀ W,Calls Try.prog 141 #[.agg #[.int .i64 a.f0,.int .i64 a.f1]] W fun e w'=>e=.returned (.bool true)∧Below W.heap.size W w' from fun W=>by have:=zeroS W a;rwa [show (a.f0 == 0)=true from by rw [cz];rfl] at this)
          have HV:=Aside0.mk (show R=(l.take i ++ rl,true) from by rw [HV0.out,if_pos cz,List.append_nil,HRL.out])
          clear cz
          go_wp2_with (first
            | (go_at_call 141;refine (HZ.out _).mono ?_;rintro e w8 ⟨rfl,hb⟩;have HB8:=Aside0.mk (qe_ HB4.out hb);have HO8:=Aside0.mk (Kd.qe2_ HO4.out hb);clear hb)
            | ((with_reducible refine qg2_ (b:=.append) (xs:=#[.tmp 69,.tmp 72]) rfl ?_);at_builtin;refine Kd.qn2_ k79 (w0:=w) w.heap.size rfl (.tmp 69) (.tmp 72) 24 79 (.agg #[(.string ⟨#[]⟩),(.int .i64 0),(.int .i64 0)]) 32 rfl Try.underlying24 info79' rfl (by decide) (by omega) v4 (l.take i) rl _ _ _ (fun _=>True) (fun _=>False) rfl rfl ?aO ?aR (fun _ _ h=>h) (fun _ h=>h.elim) ?aF ?aB ?aS ?aL ?_;(case aR=>exact Kd.qw1_ HR2.out HB8.out);(case aB=>exact HB8.out);(case aF=>exact (fun _ _=>trivial));(case aO=>exact HO8.out);(case aS=>exact qk_ HB8.out);(case aL=>have:=HRLL.out;have:=HA.out.len;rw [List.length_take];omega);intro v9 w9 ho hb hg hat;have HB9:=Aside0.mk hb;have HO9:=Aside0.mk ho;clear ho hb hg hat))
          go_returns
          rw [HV.out]
          exact ⟨_,rfl,HO9.out,HB9.out⟩
        · have HZ:=Aside0.mk (show ∀ W,Calls Try.prog 141 #[.agg #[.int .i64 a.f0,.int .i64 a.f1]] W fun e w'=>e=.returned (.bool false)∧Below W.heap.size W w' from fun W=>by have:=zeroS W a;rwa [show (a.f0 == 0)=false from by simpa using cz] at this)
          have HV:=Aside0.mk (show R=(l.take i ++ [⟨s,a⟩] ++ rl,true) from by rw [HV0.out,if_neg cz,HRL.out])
          clear cz
          go_wp2_with (first
            | (go_at_call 141;refine (HZ.out _).mono ?_;rintro e w8 ⟨rfl,hb⟩;have HB8:=Aside0.mk (qe_ HB4.out hb);have HO8:=Aside0.mk (Kd.qe2_ HO4.out hb);have F8:=FrAt.below HF4.out hb;have y0:=F8.c0;have y1:=F8.c1;clear F8 hb)
            | ((with_reducible refine qg2_ (b:=.append) (xs:=#[.tmp 63,.tmp 67]) rfl ?_);at_builtin;refine Kd.R_append k79 (w0:=w) w.heap.size rfl (.tmp 63) (.tmp 67) 24 79 (.agg #[(.string ⟨#[]⟩),(.int .i64 0),(.int .i64 0)]) 32 rfl Try.underlying24 info79' rfl (by decide) (by omega) v4 (l.take i) ⟨s,a⟩ [.string s,.int .i64 a.f0,.int .i64 a.f1] (fun _=>True) (fun _=>False) rfl rfl ?aP (fun _ hk=>hk.elim) ?aF ?aO ?aB ?aS ?aL ?_;(case aP=>exact k79_mkM _ _ _ ⟨s,a⟩);(case aB=>exact HB8.out);(case aF=>exact (fun _ _=>trivial));(case aO=>exact HO8.out);(case aS=>exact (qk_ HB8.out));(case aL=>have:=HA.out.len;rw [List.length_take];omega);intro v7 w7 ho hb hg hat;have HB7:=Aside0.mk hb;have HO7:=Aside0.mk ho;clear ho hb hg hat)
            | ((with_reducible refine qg2_ (b:=.append) (xs:=#[.tmp 69,.tmp 72]) rfl ?_);at_builtin;refine Kd.qn2_ k79 (w0:=w) w.heap.size rfl (.tmp 69) (.tmp 72) 24 79 (.agg #[(.string ⟨#[]⟩),(.int .i64 0),(.int .i64 0)]) 32 rfl Try.underlying24 info79' rfl (by decide) (by omega) v7 (l.take i ++ [⟨s,a⟩]) rl _ _ _ (fun _=>True) (fun _=>False) rfl rfl ?aO ?aR (fun _ _ h=>h) (fun _ h=>h.elim) ?aF ?aB ?aS ?aL ?_;(case aR=>exact Kd.qw1_ HR2.out HB7.out);(case aB=>exact HB7.out);(case aF=>exact (fun _ _=>trivial));(case aO=>exact HO7.out);(case aS=>exact qk_ HB7.out);(case aL=>have:=HRLL.out;have:=HA.out.len;rw [List.length_append,List.length_take,List.length_singleton];omega);intro v9 w9 ho hb hg hat;have HB9:=Aside0.mk hb;have HO9:=Aside0.mk ho;clear ho hb hg hat))
          all_goals
            go_returns
            rw [HV.out]
            exact ⟨_,rfl,HO9.out,HB9.out⟩
end Go.Proofs.Ytaiefdhenikiiaa.Base
namespace Go.Proofs.Ytaiefdhenikiiaa.Base
open Go.RowKit Go.Proofs.YtaiefdhenikiiaaW.PrintWords Go.Proofs.YtaiefdhenikiiaaW.PrintLast Go.Proofs.YtaiefdhenikiiaaW.PrintMore
set_option linter.unusedVariables false
set_option linter.unusedSimpArgs false
/-- What stands in memory while a sum is made. -/
structure AdS (w W:World) (bo:Nat) (d n:Int) (A:Option Addr) (ca la:Nat) (D2 N2:Int) (B:Option Addr) (cb lb:Nat) (k:S77) (vo:Value) (acc:List S79):Prop where
  sx:SrAt W w.heap.size d n (.slice A la ca)
  sy:SrAt W (w.heap.size+1) D2 N2 (.slice B lb cb)
  sk:FrAt W (w.heap.size+2) k
  sr:SrAt W (w.heap.size+3) 0 0 (.slice none 0 0)
  so:SrAt W bo d n vo
  ro:TermsR W w.heap.size vo acc
  be:Below w.heap.size w W
  lo:w.heap.size+3 < bo
theorem AdS.below {w W W':World} {bo:Nat} {d n D2 N2:Int} {A B:Option Addr} {ca la cb lb:Nat} {k:S77} {vo:Value} {acc:List S79} (H:AdS w W bo d n A ca la D2 N2 B cb lb k vo acc) (hb:Below W.heap.size W W'):AdS w W' bo d n A ca la D2 N2 B cb lb k vo acc :=
  ⟨H.sx.below hb,H.sy.below hb,H.sk.below hb,H.sr.below hb,H.so.below hb,Kd.qe2_ H.ro hb,qe_ H.be hb,H.lo⟩
theorem keep4 {w W:World} {a1 a2 a3 a4:Addr} {v1 v2 v3 v4:Value} (p1:w.cell? a1=some v1) (p2:w.cell? a2=some v2) (p3:w.cell? a3=some v3) (p4:w.cell? a4=some v4) (hb:Below w.heap.size w W) :
    W.cell? a1=some v1∧W.cell? a2=some v2∧W.cell? a3=some v3∧W.cell? a4=some v4 :=
  ⟨qs_ hb p1,qs_ hb p2,qs_ hb p3,qs_ hb p4⟩
theorem keep5 {w W:World} {a1 a2 a3 a4 a5:Addr} {v1 v2 v3 v4 v5:Value} (p1:w.cell? a1=some v1) (p2:w.cell? a2=some v2) (p3:w.cell? a3=some v3) (p4:w.cell? a4=some v4) (p5:w.cell? a5=some v5) (hb:Below w.heap.size w W) :
    W.cell? a1=some v1∧W.cell? a2=some v2∧W.cell? a3=some v3∧W.cell? a4=some v4∧W.cell? a5=some v5 :=
  ⟨qs_ hb p1,qs_ hb p2,qs_ hb p3,qs_ hb p4,qs_ hb p5⟩
set_option maxHeartbeats 32000000 in
set_option maxRecDepth 100000 in
theorem addFS (w:World) (D N D2 N2:Int) {x y:List S79} {A B:Option Addr} {ca cb:Nat} (hA:TmsC w A ca x) (hB:TmsC w B cb y) (hx:okL x) (hy:okL y) (hl:x.length+y.length≤1000000) (k:S77) (hk:okF k) :
    Calls Try.prog 125 #[.agg #[.int .i64 D,.int .i64 N,.slice A x.length ca],.agg #[.int .i64 D2,.int .i64 N2,.slice B y.length cb],.agg #[.int .i64 k.f0,.int .i64 k.f1]] w (OutR w D N (addSL x y k)):=by
  have hu:=Try.underlying38
  have hu2:=Try.underlying79
  have hu3:=Try.underlying77
  have HA:=Aside0.mk hA
  have HB:=Aside0.mk hB
  have HX:=Aside0.mk hx
  have HY:=Aside0.mk hy
  have HL:=Aside0.mk hl
  have HK:=Aside0.mk hk
  clear hA hB hx hy hl hk
  obtain ⟨R,hR⟩:∃ R,R=addSL x y k:=⟨_,rfl⟩
  rw [← hR]
  have HRR:=Aside0.mk hR
  clear hR
  go_enter Try.func125,Try.ntmps125
  go_wp2_with (first
    | (go_at_call 108;refine (emptyS _ D N (HA.out.below (qb_ (qb_ (qb_ (qb_ (Below.refl _ _) _) _) _) _))).mono ?_;rintro e w1 ⟨v,rfl,hv,hb⟩;obtain ⟨A1,c1,rfl⟩:=Kd.qa2_ hv;have S1:SrAt w1 w.heap.size D N (.slice A x.length ca):=ql_ (old_at (old_at (old_at (new_at rfl)))) hb;have S2:SrAt w1 (w.heap.size+1) D2 N2 (.slice B y.length cb):=ql_ (old_at (old_at (new_at (by simp)))) hb;have S4:FrAt w1 (w.heap.size+2) k:=ql_ (old_at (new_at (by simp))) hb;have S3:SrAt w1 (w.heap.size+3) 0 0 (.slice none 0 0):=ql_ (new_at (by simp)) hb;have HB1:=Aside0.mk (show Below w.heap.size w w1 from qe_ (qb_ (qb_ (qb_ (qb_ (Below.refl _ _) _) _) _) _) hb);have HL1:=Aside0.mk (show w.heap.size+3 < w1.heap.size from S3.lt);have HS1:=Aside0.mk S1;have HS2:=Aside0.mk S2;have HS3:=Aside0.mk S3;have HS4:=Aside0.mk S4;have x2:=S1.c2;have e2:(w1.alloc (.cells #[.int .i64 D,.int .i64 N,.slice A1 0 c1] 38)).cell? ⟨w.heap.size,2,none⟩=some (.slice A x.length ca):=(SrAt.alloc S1 _).c2;have HV1:=Aside0.mk (show TermsR w1 w.heap.size (.slice A1 ([]:List S79).length c1) [] from Kd.qi2_ hv (qk_ (qb_ (qb_ (qb_ (qb_ (Below.refl w.heap.size w) _) _) _) _)));clear S1 S2 S3 S4 hv hb)
    | ((with_reducible refine qg2_ (b:=.append) (xs:=#[.tmp 19,.tmp 21]) rfl ?_);at_builtin;refine Kd.qn2_ k79 (w0:=w) w.heap.size rfl (.tmp 19) (.tmp 21) 24 79 (.agg #[(.string ⟨#[]⟩),(.int .i64 0),(.int .i64 0)]) 32 rfl Try.underlying24 info79' rfl (by decide) (by omega) (.slice A1 0 c1) ([]:List S79) x _ _ _ (fun _=>True) (fun _=>False) rfl rfl ?aO ?aR (fun _ _ h=>h) (fun _ h=>h.elim) ?aF ?aB ?aS ?aL ?_;(case aR=>exact (HA.out.below (qb_ HB1.out _)).row);(case aB=>exact qb_ HB1.out _);(case aF=>exact (fun _ _=>trivial));(case aO=>exact Kd.qc1_ HV1.out _);(case aS=>exact qk_ (qb_ HB1.out _));(case aL=>have:=HL.out;rw [List.length_nil];omega);intro v2 w2 ho hb hg hat;rw [List.nil_append] at ho;have hr1:=Kd.qc1_ (o:=.cells #[.int .i64 D,.int .i64 N,.slice A1 0 c1] 38) HV1.out;have SO:SrAt w2 w1.heap.size D N (.slice A1 0 c1):=SrAt.grown (new_at rfl) hg (Kd.R_ne hr1 (new_at rfl:SrAt _ w1.heap.size D N (.slice A1 0 c1)) (by decide));have HS1':=Aside0.mk ((HS1.out.alloc _).grown hg (Kd.R_ne hr1 (HS1.out.alloc _) (by decide)));have HS2':=Aside0.mk ((HS2.out.alloc _).grown hg (Kd.R_ne hr1 (HS2.out.alloc _) (by decide)));have HS3':=Aside0.mk ((HS3.out.alloc _).grown hg (Kd.R_ne hr1 (HS3.out.alloc _) (by decide)));have HS4':=Aside0.mk (show FrAt w2 (w.heap.size+2) k from qg3_ (HS4.out.alloc _) hg (Kd.R_ne hr1 (HS4.out.alloc _) (by decide)));obtain ⟨A2,c2,rfl⟩:=Kd.qa2_ ho;have HO2:=Aside0.mk ho;have HB2:=Aside0.mk hb;have u2:=SO.c2;have uf:=qd_ SO 2;have HSO:=Aside0.mk SO;clear SO hr1 ho hb hg hat)
    | ((with_reducible refine qf1_ (N:=24) rfl ?_);refine Kd.R_lit k79 _ 79 ?hg (N:=24) ?hd (xs:=([]:List S79)) (inner:=[]) (ok:=fun _=>True) (okp:=fun _=>True) ?hr ?hp (fun _ hk=>hk) trivial (Below.refl _ _) (Nat.le_refl _) (by simp) ?_;(case hd=>rfl);(case hg=>rfl);(case hr=>first|(go_simp;done)|(go_simp;rfl));(case hp=>exact (Reps.none _ _));intro v3 w3 ho hb hg hnew;clear hg hnew;have HIB:=Aside0.mk (show AdS w (w2.setCell ⟨w1.heap.size,2,none⟩ (.slice A2 x.length c2)) w1.heap.size D N A ca x.length D2 N2 B cb y.length k (.slice A2 x.length c2) x from ⟨HS1'.out.far (by have:=HL1.out;simp;omega) _,HS2'.out.far (by have:=HL1.out;simp;omega) _,HS4'.out.far (by have:=HL1.out;simp;omega) _,HS3'.out.far (by have:=HL1.out;simp;omega) _,HSO.out.put _,Kd.R_set HO2.out HSO.out (by decide) 2 _,HB2.out.setCell (by have:=HL1.out;simp;omega) _,HL1.out⟩);have HB3:=Aside0.mk hb;obtain ⟨A3,c3,rfl⟩:=Kd.qa2_ ho;have HV3:=Aside0.mk ho;clear ho hb))
  generalize w2.setCell ⟨w1.heap.size,2,none⟩ (.slice A2 x.length c2)=WB at HIB HB3 HV3
  clear HS1 HS2 HS3 HS4 HV1 HS1' HS2' HS3' HS4' HO2 HSO x2 e2 u2 uf
  go_loopg [9,10] y.length (fun gg v9 v10 wr=>∃ (i:Nat) (vs:Value) (sc:List S79),i≤y.length∧y.length - i≤gg∧v9=vs∧v10=.int .i64 i∧Aside0 (Below WB.heap.size WB wr)∧Aside0 (TermsR wr WB.heap.size vs sc)∧Aside0 (scaleL k (y.take i)=some sc))
  case atStart=>exact ⟨0,_,[],Nat.zero_le _,by omega,rfl,rfl,HB3,HV3,⟨by rw [List.take_zero];rfl⟩⟩
  case round =>
    clear HB3 HV3
    obtain ⟨i,vs,sc,hi,hg,he9,rfl,HBr,HV,HP⟩:=hrel
    have HI:=Aside0.mk (HIB.out.below HBr.out)
    have he9':=he9.symm
    subst he9'
    have HYL:=Aside0.mk (show y.length≤1000000 by have:=HL.out;omega)
    by_cases hlt:i < y.length
    · have hltz:(i:Int) < (y.length:Int):=by omega
      obtain ⟨ad,rfl,t0,t1,t2⟩:=at_T79 (Kd.qw1_ HB.out.row HI.out.be) (i:Int) (by omega) (by omega)
      have e1:rd_T79 y (i:Int)=y[i]:=by simp [rd_T79,List.getD_eq_getElem?_getD,List.getElem?_eq_getElem hlt]
      obtain ⟨z,hz⟩:∃ z,z=y[i]:=⟨_,rfl⟩
      rw [e1,← hz,Int.toNat_natCast] at t0 t1 t2
      have HOZ:=Aside0.mk (show okF z.f1 by rw [hz];exact HY.out _ (List.getElem_mem hlt))
      have HST:=Aside0.mk (show scaleL k (y.take (i+1))=if (timesM k z.f1).2=true then some (sc ++ [⟨z.f0,(timesM k z.f1).1⟩]) else none from by rw [scaleL_step hlt,HP.out,← hz];rfl)
      have HT0:=Aside0.mk t0
      have HSC:=Aside0.mk (scaleL_ok y i hi sc HP.out)
      have HFail:=Aside0.mk (show scaleL k (y.take (i+1))=none→R=none from fun h=>by
        rw [HRR.out,show addSL x y k=(scaleL k y).bind fun s=>addL x s from rfl,show scaleL k y=none from by
          conv=>lhs;rw [← List.take_append_drop (i+1) y]
          exact scaleL_none k _ _ h]
        rfl)
      clear e1 hz HP
      have p0:=HI.out.sk.c0
      have p1:=HI.out.sk.c1
      have p2:=HI.out.sy.c2
      obtain ⟨f,hf⟩:∃ f,f=tellF (timesM k z.f1):=⟨_,rfl⟩
      obtain ⟨ok,hok⟩:∃ ok,ok=(timesM k z.f1).2:=⟨_,rfl⟩
      have HTM:=Aside0.mk (show ∀ W,Calls Try.prog 178 #[.agg #[.int .i64 k.f0,.int .i64 k.f1],.agg #[.int .i64 z.f1.f0,.int .i64 z.f1.f1]] W fun e w'=>e=.returned (.tuple #[.agg #[.int .i64 f.f0,.int .i64 f.f1],.bool ok])∧Below W.heap.size W w' from fun W=>by rw [hf,hok];exact timesFS W HK.out HOZ.out)
      have HF:=Aside0.mk hf
      have HOK:=Aside0.mk hok
      clear hf hok
      go_wp2
      go_cut [11,12] (fun v11 v12 wx=>∃ b9:Nat,v11=.pointer (some ⟨b9,0,none⟩)∧v12=.bool ok∧Aside0 (FrAt wx b9 f)∧Aside0 (Below wr.heap.size wr wx))
      case first =>
        go_region_held3 (fun w'=>w'.cell? ⟨w.heap.size+2,0,none⟩=some (.int .i64 k.f0)∧w'.cell? ⟨w.heap.size+2,1,none⟩=some (.int .i64 k.f1)∧w'.cell? ⟨w.heap.size+1,2,none⟩=some (.slice (some ad) y.length cb)∧w'.cell? ⟨(ad.add (i * 3)).block,(ad.add (i * 3)).off+1,none⟩=some (.int .i64 z.f1.f0)∧w'.cell? ⟨(ad.add (i * 3)).block,(ad.add (i * 3)).off+2,none⟩=some (.int .i64 z.f1.f1)) (exact keep5 p0 p1 p2 t1 t2 (by (repeat' (first|(with_reducible exact Below.refl _ _)|(with_reducible exact HB4.out)|(with_reducible refine Below.setCell ?_ ?_ _)|(with_reducible refine qc_ ?_)|(with_reducible refine qa_ ?_ _)|(with_reducible refine qb_ ?_ _)|(simp;done)|(simp;omega)|(have:=HB4.out.size;simp;omega))))) (first|(go_at_call 178;refine (HTM.out _).mono ?_;rintro e w4 ⟨rfl,hb⟩;have HB4:=Aside0.mk (show Below wr.heap.size wr w4 from qe_ (by repeat (first|(with_reducible exact Below.refl _ _)|(with_reducible refine qc_ ?_)|(with_reducible refine qa_ ?_ _)|(with_reducible refine qb_ ?_ _))) hb);first|(refine (fun (Z:w4.heap[wr.heap.size]?=some (.cells #[.int .i64 0,.int .i64 0] 77 (0,0)))=>?_) (ql_ ?_ hb);rotate_left;(first|exact drew_at (new_at rfl)|exact new_at rfl);have HZZ:=Aside0.mk Z;have z0:=qj_ Z 0;have z1:=qj_ Z 1;have zf0:=qd_ Z 0;have zf1:=qd_ Z 1;clear Z hb)|(clear hb)))
        all_goals
          go_wp2_with fail
          go_meet
          case rel =>
            refine ⟨_,rfl,rfl,⟨?_⟩,⟨?_⟩⟩
            · (repeat' (first|((with_reducible refine FrAt.new' ?_ _);simp;done)|(with_reducible refine FrAt.put2 ?_ _)|(with_reducible exact HZZ.out)|(with_reducible refine FrAt.drewN ?_ _)|(with_reducible refine FrAt.drew ?_)|(with_reducible refine FrAt.alloc ?_ _)|((with_reducible refine FrAt.far ?_ ?_ _);rotate_left;(focus (first|(simp;done)|(simp;omega))))|(with_reducible refine drewN_at ?_)|(with_reducible refine drew_at ?_)|((with_reducible refine new_at ?_);simp;done)|(with_reducible refine old_at ?_)|((with_reducible refine qb2_ ?_ ?_ _);rotate_left;(focus (first|(simp;done)|(simp;omega))))))
            · (repeat' (first|(with_reducible exact Below.refl _ _)|(with_reducible exact HB4.out)|(with_reducible refine Below.setCell ?_ ?_ _)|(with_reducible refine qc_ ?_)|(with_reducible refine qa_ ?_ _)|(with_reducible refine qb_ ?_ _)|(simp;done)|(simp;omega)|(have:=HB4.out.size;simp;omega)))
      case rest =>
        obtain ⟨b9,rfl,rfl,HF9,HM4⟩:=hcut
        have HI4:=Aside0.mk (HI.out.below HM4.out)
        have HV4:=Aside0.mk (Kd.qe2_ HV.out HM4.out)
        have HB4:=Aside0.mk (qe_ HBr.out HM4.out)
        cases ok with
        | false =>
          have HRN:=Aside0.mk (HFail.out (by rw [HST.out,← HOK.out];rfl))
          clear p0 p1 p2 t0 t1 t2
          have SR:=HI4.out.sr
          have x0:wc.cell? ⟨w.heap.size+1+1+1,0,none⟩=some (.int .i64 0):=SR.c0
          have x1:wc.cell? ⟨w.heap.size+1+1+1,1,none⟩=some (.int .i64 0):=SR.c1
          have x2:wc.cell? ⟨w.heap.size+1+1+1,2,none⟩=some (.slice none 0 0):=SR.c2
          have f0:wc.frozen? ⟨w.heap.size+1+1+1,0,none⟩=false:=qd_ SR 0
          have f1:wc.frozen? ⟨w.heap.size+1+1+1,1,none⟩=false:=qd_ SR 1
          have f2:wc.frozen? ⟨w.heap.size+1+1+1,2,none⟩=false:=qd_ SR 2
          clear SR
          go_wp2
          refine bodyPost_ret (results_ct rfl _ _ (w.heap.size+3) 38 _ (0,0) _ rfl (qr_ (qr_ (qr_ HI4.out.sr 0 _) 1 _) 2 _) hu rfl (by kernel_rfl)) rfl ?_
          rw [HRN.out]
          exact ⟨_,rfl,Kd.R_nil _ _ _ _ _,((HI4.out.be.setCell (Nat.le_add_right _ 3) _).setCell (Nat.le_add_right _ 3) _).setCell (Nat.le_add_right _ 3) _⟩
        | true =>
          have HST2:=Aside0.mk (show scaleL k (y.take (i+1))=some (sc ++ [⟨z.f0,f⟩]) from by
            rw [HST.out,← HOK.out,HF.out];unfold tellF;rw [← HOK.out];rfl)
          have q0:=qs_ HM4.out HT0.out
          have q2:=HI4.out.sy.c2
          have f0:=HF9.out.c0
          have f1:=HF9.out.c1
          clear p0 p1 p2 t0 t1 t2
          go_wp2
          refine wp_region_noPanic ?_
          go_region_law ((refine Kd.qe3_ k79 (w0:=WB) WB.heap.size rfl (.tmp 46) (.tmp 55) 24 79 (.agg #[(.string ⟨#[]⟩),(.int .i64 0),(.int .i64 0)]) 32 rfl Try.underlying24 info79' rfl (by decide) (by omega) vs sc ⟨z.f0,f⟩ [.string z.f0,.int .i64 f.f0,.int .i64 f.f1] (fun _=>True) (fun k=>some k ≠ vs.ownBlock) rfl rfl (k79_mkM _ _ _ ⟨z.f0,f⟩) (fun _ h=>⟨trivial,h⟩) (fun _ _=>trivial) (Kd.R_drew HV4.out) (qc_ HB4.out) HB4.out.size (by have:=HSC.out.2;have:=HYL.out;omega) ?_;intro v6 w6 ho hb hg hat;have HR6:=Aside0.mk ho;have HB6:=Aside0.mk hb;clear ho hb hg hat))
          all_goals
            refine NoPanic.normal ?_
            go_wp2
            go_roundg (y.length - (i+1))
            case measure=>omega
            case rel=>exact ⟨i+1,_,sc ++ [⟨z.f0,f⟩],by omega,by omega,rfl,by have:=HYL.out;first|rfl|(rw [w64 (by omega) (by omega)];rfl),HB6,HR6,HST2⟩
    · have hltz:¬ (i:Int) < (y.length:Int):=by omega
      obtain rfl:i=y.length:=by omega
      have p2:=HI.out.sy.c2
      have hp:=HP.out
      rw [List.take_length] at hp
      have HPS:=Aside0.mk hp
      have HSC:=Aside0.mk (show okL sc∧sc.length=y.length from scaleL_ok y y.length (Nat.le_refl _) sc HP.out)
      have HRA:=Aside0.mk (show R=addL x sc from by rw [HRR.out,show addSL x y k=(scaleL k y).bind fun s=>addL x s from rfl,hp];rfl)
      obtain ⟨As,cs,rfl⟩:=Kd.qa2_ HV.out
      clear hp HP
      go_wp2
      go_loopg [13] sc.length (fun gg v13 wq=>∃ (j:Nat) (Ao:Option Addr) (co:Nat) (acc:List S79),j≤sc.length∧sc.length - j≤gg∧v13=.int .i64 j∧Aside0 (AdS w wq w1.heap.size D N A ca x.length D2 N2 B cb y.length k (.slice Ao acc.length co) acc)∧Aside0 (TermsR wq WB.heap.size (.slice As sc.length cs) sc)∧Aside0 (addL x (sc.take j)=some acc))
      case atStart=>exact ⟨0,A2,c2,x,Nat.zero_le _,by omega,rfl,HI,HV,⟨by rw [List.take_zero];rfl⟩⟩
      case round =>
        clear HI HV p2 HBr
        obtain ⟨j,Ao,co,acc,hj,hgj,rfl,HI,HV,HP⟩:=hrel
        have HSL:=Aside0.mk (show sc.length≤1000000 from by have:=HSC.out.2;have:=HYL.out;omega)
        by_cases hjl:j < sc.length
        · have hjz:(j:Int) < (sc.length:Int):=by omega
          obtain ⟨ad,rfl,t0,t1,t2⟩:=at_T79 (Kd.qa3_ HV.out).2.2 (j:Int) (by omega) (by omega)
          have e1:rd_T79 sc (j:Int)=sc[j]:=by simp [rd_T79,List.getD_eq_getElem?_getD,List.getElem?_eq_getElem hjl]
          obtain ⟨z,hz⟩:∃ z,z=sc[j]:=⟨_,rfl⟩
          rw [e1,← hz,Int.toNat_natCast] at t0 t1 t2
          have HOZ:=Aside0.mk (show okF z.f1 by rw [hz];exact HSC.out.1 _ (List.getElem_mem hjl))
          have HST:=Aside0.mk (show addL x (sc.take (j+1))=putL acc z.f0 z.f1 from by rw [addL_step hjl,HP.out,← hz];rfl)
          have HAO:=Aside0.mk (addL_ok HX.out HSC.out.1 j hj acc HP.out)
          have HFail:=Aside0.mk (show addL x (sc.take (j+1))=none→R=none from fun h=>by
            rw [HRA.out]
            conv=>lhs;rw [← List.take_append_drop (j+1) sc]
            exact addL_none x _ _ h)
          clear e1 hz HP
          have p2:=HI.out.so.c2
          have HTC:=Aside0.mk (show TmsC wr Ao co acc from (TmsC.of HI.out.ro (by have:=HAO.out.2;have:=HL.out;have:=HSC.out.2;omega)).1)
          obtain ⟨o,ho⟩:∃ o,o=putL acc z.f0 z.f1:=⟨_,rfl⟩
          have HPU:=Aside0.mk (show ∀ W,TmsC W Ao co acc→Calls Try.prog 158 #[.slice Ao acc.length co,.string z.f0,.agg #[.int .i64 z.f1.f0,.int .i64 z.f1.f1]] W (fun e w'=>∃ v:Value,e=.returned (.tuple #[v,.bool (tellL o).2])∧TermsR w' W.heap.size v (tellL o).1∧Below W.heap.size W w') from fun W H=>by rw [ho];exact putH W H HAO.out.1 z.f0 HOZ.out)
          rw [← ho] at HST
          clear ho
          cases o with
          | none =>
            have HRN:=Aside0.mk (HFail.out HST.out)
            go_wp2
            go_region_held3 (fun w'=>w'.cell? ⟨w1.heap.size,2,none⟩=some (.slice Ao acc.length co)∧w'.cell? (ad.add (j * 3))=some (.string z.f0)∧w'.cell? ⟨(ad.add (j * 3)).block,(ad.add (j * 3)).off+1,none⟩=some (.int .i64 z.f1.f0)∧w'.cell? ⟨(ad.add (j * 3)).block,(ad.add (j * 3)).off+2,none⟩=some (.int .i64 z.f1.f1)) (exact keep4 p2 t0 t1 t2 (by (repeat' (first|(with_reducible exact Below.refl _ _)|(with_reducible exact HB4.out)|(with_reducible refine Below.setCell ?_ ?_ _)|(with_reducible refine qc_ ?_)|(with_reducible refine qa_ ?_ _)|(with_reducible refine qb_ ?_ _)|(simp;done)|(simp;omega)|(have:=HB4.out.size;simp;omega))))) (first|(go_at_call 158;refine (HPU.out _ ?hT).mono ?_;(case hT=>exact HTC.out.below (by repeat (first|(with_reducible exact Below.refl _ _)|(with_reducible refine qc_ ?_)|(with_reducible refine qa_ ?_ _)|(with_reducible refine qb_ ?_ _))));rintro e w5 ⟨v,rfl,hv,hb⟩;have HB4:=Aside0.mk (show Below wr.heap.size wr w5 from qe_ (by repeat (first|(with_reducible exact Below.refl _ _)|(with_reducible refine qc_ ?_)|(with_reducible refine qa_ ?_ _)|(with_reducible refine qb_ ?_ _))) hb);have HI5:=Aside0.mk (HI.out.below HB4.out);have SR:=HI5.out.sr;have x0:w5.cell? ⟨w.heap.size+1+1+1,0,none⟩=some (.int .i64 0):=SR.c0;have x1:w5.cell? ⟨w.heap.size+1+1+1,1,none⟩=some (.int .i64 0):=SR.c1;have x2:w5.cell? ⟨w.heap.size+1+1+1,2,none⟩=some (.slice none 0 0):=SR.c2;have f0:w5.frozen? ⟨w.heap.size+1+1+1,0,none⟩=false:=qd_ SR 0;have f1:w5.frozen? ⟨w.heap.size+1+1+1,1,none⟩=false:=qd_ SR 1;have f2:w5.frozen? ⟨w.heap.size+1+1+1,2,none⟩=false:=qd_ SR 2;clear SR;clear hv hb))
            go_wp2
            refine bodyPost_ret (results_ct rfl _ _ (w.heap.size+3) 38 _ (0,0) _ rfl (qr_ (qr_ (qr_ HI5.out.sr 0 _) 1 _) 2 _) hu rfl (by kernel_rfl)) rfl ?_
            rw [HRN.out]
            exact ⟨_,rfl,Kd.R_nil _ _ _ _ _,((HI5.out.be.setCell (Nat.le_add_right _ 3) _).setCell (Nat.le_add_right _ 3) _).setCell (Nat.le_add_right _ 3) _⟩
          | some q =>
            go_wp2
            go_region_held3 (fun w'=>w'.cell? ⟨w1.heap.size,2,none⟩=some (.slice Ao acc.length co)∧w'.cell? (ad.add (j * 3))=some (.string z.f0)∧w'.cell? ⟨(ad.add (j * 3)).block,(ad.add (j * 3)).off+1,none⟩=some (.int .i64 z.f1.f0)∧w'.cell? ⟨(ad.add (j * 3)).block,(ad.add (j * 3)).off+2,none⟩=some (.int .i64 z.f1.f1)) (exact keep4 p2 t0 t1 t2 (by (repeat' (first|(with_reducible exact Below.refl _ _)|(with_reducible exact HB4.out)|(with_reducible refine Below.setCell ?_ ?_ _)|(with_reducible refine qc_ ?_)|(with_reducible refine qa_ ?_ _)|(with_reducible refine qb_ ?_ _)|(simp;done)|(simp;omega)|(have:=HB4.out.size;simp;omega))))) (first|(go_at_call 158;refine (HPU.out _ ?hT).mono ?_;(case hT=>exact HTC.out.below (by repeat (first|(with_reducible exact Below.refl _ _)|(with_reducible refine qc_ ?_)|(with_reducible refine qa_ ?_ _)|(with_reducible refine qb_ ?_ _))));rintro e w5 ⟨v,rfl,hv,hb⟩;obtain ⟨Aq,cq,rfl⟩:=Kd.qa2_ hv;have HB4:=Aside0.mk (show Below wr.heap.size wr w5 from qe_ (by repeat (first|(with_reducible exact Below.refl _ _)|(with_reducible refine qc_ ?_)|(with_reducible refine qa_ ?_ _)|(with_reducible refine qb_ ?_ _))) hb);have HI5:=Aside0.mk (HI.out.below HB4.out);have HV5:=Aside0.mk (show TermsR w5 WB.heap.size (.slice (some ad) sc.length cs) sc from Kd.qe2_ HV.out HB4.out);have HQ:=Aside0.mk (show TermsR w5 w.heap.size (.slice Aq q.length cq) q from Kd.qi2_ hv (Nat.le_trans HI.out.be.size (qk_ (show Below wr.heap.size wr _ from (by repeat (first|(with_reducible exact Below.refl _ _)|(with_reducible refine qc_ ?_)|(with_reducible refine qa_ ?_ _)|(with_reducible refine qb_ ?_ _)))))));have g2:=HI5.out.so.c2;have gf:=qd_ HI5.out.so 2;clear hv hb))
            go_wp2
            go_roundg (sc.length - (j+1))
            case measure=>omega
            case rel =>
              have hlo:=HI5.out.lo
              refine ⟨j+1,Aq,cq,q,by omega,by omega,by have:=HSL.out;first|rfl|(rw [w64 (by omega) (by omega)];rfl),⟨⟨?_,?_,?_,?_,HI5.out.so.put _,?_,?_,hlo⟩⟩,⟨Kd.R_set HV5.out HI5.out.so (by decide) 2 _⟩,HST⟩
              · exact HI5.out.sx.far (by simp;omega) _
              · exact HI5.out.sy.far (by simp;omega) _
              · exact HI5.out.sk.far (by simp;omega) _
              · exact HI5.out.sr.far (by simp;omega) _
              · exact Kd.R_set HQ.out HI5.out.so (by decide) 2 _
              · exact HI5.out.be.setCell (by simp;omega) _
        · have hjz:¬ (j:Int) < (sc.length:Int):=by omega
          obtain rfl:j=sc.length:=by omega
          have hp:=HP.out
          rw [List.take_length] at hp
          have HRS:=Aside0.mk (show R=some acc from HRA.out.trans hp)
          have y0:=HI.out.so.c0
          have y1:=HI.out.so.c1
          have y2:=HI.out.so.c2
          clear hp
          have SR:=HI.out.sr
          have x0:wr.cell? ⟨w.heap.size+1+1+1,0,none⟩=some (.int .i64 0):=SR.c0
          have x1:wr.cell? ⟨w.heap.size+1+1+1,1,none⟩=some (.int .i64 0):=SR.c1
          have x2:wr.cell? ⟨w.heap.size+1+1+1,2,none⟩=some (.slice none 0 0):=SR.c2
          have f0:wr.frozen? ⟨w.heap.size+1+1+1,0,none⟩=false:=qd_ SR 0
          have f1:wr.frozen? ⟨w.heap.size+1+1+1,1,none⟩=false:=qd_ SR 1
          have f2:wr.frozen? ⟨w.heap.size+1+1+1,2,none⟩=false:=qd_ SR 2
          clear SR
          go_wp2
          refine bodyPost_ret (results_ct rfl _ _ (w.heap.size+3) 38 _ (0,0) _ rfl (qr_ (qr_ (qr_ HI.out.sr 0 _) 1 _) 2 _) hu rfl (by kernel_rfl)) rfl ?_
          rw [HRS.out]
          refine ⟨_,rfl,?_,((HI.out.be.setCell (Nat.le_add_right _ 3) _).setCell (Nat.le_add_right _ 3) _).setCell (Nat.le_add_right _ 3) _⟩
          exact Kd.R_set (Kd.R_set (Kd.R_set HI.out.ro HI.out.sr (by decide) 0 _) (qr_ HI.out.sr 0 _) (by decide) 1 _) (qr_ (qr_ HI.out.sr 0 _) 1 _) (by decide) 2 _
end Go.Proofs.Ytaiefdhenikiiaa.Base
namespace Go.Proofs.Ytaiefdhenikiiaa.Base
open Go.RowKit Go.Proofs.YtaiefdhenikiiaaW.PrintWords Go.Proofs.YtaiefdhenikiiaaW.PrintLast Go.Proofs.YtaiefdhenikiiaaW.PrintMore
set_option linter.unusedVariables false
set_option linter.unusedSimpArgs false
theorem OutR.any {w:World} {d n:Int} {o:Option (List S79)} {e:Ending} {w':World} (h:OutR w d n o e w'):∃ (D N:Int) (A:Option Addr) (m c:Nat) (b:Bool),e=.returned (.tuple #[.agg #[.int .i64 D,.int .i64 N,.slice A m c],.bool b])∧Below w.heap.size w w':=by
  cases o with
  | none=>obtain ⟨v,rfl,hv,hb⟩:=h;obtain ⟨A,c,rfl⟩:=Kd.qa2_ hv;exact ⟨_,_,_,_,_,_,rfl,hb⟩
  | some l=>obtain ⟨v,rfl,hv,hb⟩:=h;obtain ⟨A,c,rfl⟩:=Kd.qa2_ hv;exact ⟨_,_,_,_,_,_,rfl,hb⟩
/-- What is handed back of a sum of terms,or of none. -/
def OutV (d n:Int) (o:Option (List S79)) (D N:Int) (l:List S79) (ok:Bool):Prop:=match o with
  | none=>D=0∧N=0∧l=[]∧ok=false
  | some q=>D=d∧N=n∧l=q∧ok=true
theorem OutR.val {w:World} {d n:Int} {o:Option (List S79)} {e:Ending} {w':World} (h:OutR w d n o e w'):∃ (D N:Int) (A:Option Addr) (c:Nat) (l:List S79) (ok:Bool),e=.returned (.tuple #[.agg #[.int .i64 D,.int .i64 N,.slice A l.length c],.bool ok])∧OutV d n o D N l ok∧TermsR w' w.heap.size (.slice A l.length c) l∧Below w.heap.size w w':=by
  cases o with
  | none=>obtain ⟨v,rfl,hv,hb⟩:=h;obtain ⟨A,c,rfl⟩:=Kd.qa2_ hv;exact ⟨_,_,_,_,[],_,rfl,⟨rfl,rfl,rfl,rfl⟩,hv,hb⟩
  | some l=>obtain ⟨v,rfl,hv,hb⟩:=h;obtain ⟨A,c,rfl⟩:=Kd.qa2_ hv;exact ⟨_,_,_,_,l,_,rfl,⟨rfl,rfl,rfl,rfl⟩,hv,hb⟩
theorem OutR.of {w:World} {d n:Int} {o:Option (List S79)} {w':World} {D N:Int} {l:List S79} {ok:Bool} {v:Value} (h:OutV d n o D N l ok) (hv:TermsR w' w.heap.size v l) (hb:Below w.heap.size w w'):OutR w d n o (.returned (.tuple #[.agg #[.int .i64 D,.int .i64 N,v],.bool ok])) w':=by
  cases o with
  | none=>obtain ⟨rfl,rfl,rfl,rfl⟩:=h;exact ⟨v,rfl,hv,hb⟩
  | some q=>obtain ⟨rfl,rfl,rfl,rfl⟩:=h;exact ⟨v,rfl,hv,hb⟩
theorem SrAt.put3 {w:World} {b:Nat} (h:w.heap[b]?=some (.cells #[.int .i64 0,.int .i64 0,.slice none 0 0] 38 (0,0))) (D N:Int) (v:Value):SrAt (((w.setCell ⟨b,0,none⟩ (.int .i64 D)).setCell ⟨b,1,none⟩ (.int .i64 N)).setCell ⟨b,2,none⟩ v) b D N v:=qr_ (qr_ (qr_ h 0 _) 1 _) 2 _
theorem SrAt.new {w:World} {b:Nat} {D N:Int} {v:Value} (h:b=w.heap.size):SrAt (w.alloc (.cells #[.int .i64 D,.int .i64 N,v] 38)) b D N v:=new_at h
theorem terms_len {d n:Nat} {t:Tb} (h:Like t (zeroT d n)) (hs:Sz d n):(termsT t).length≤20000:=by
  have h1:(termsT t).length≤(wordsD t.d t.n).length:=termsN_len t _
  have h2:(wordsD t.d t.n).length≤19683:=wordsD_small _ _ (by rw [h.1];exact hs.d3) (by rw [h.2.1];exact hs.n8)
  omega
theorem terms_okL {t:Tb} (h:t.Ok):okL (termsT t):=fun x hx=>by obtain ⟨l,_,_,e,_⟩:=mem_terms hx;rw [e];exact h.val l
end Go.Proofs.Ytaiefdhenikiiaa.Base
namespace Go.Proofs.Ytaiefdhenikiiaa.Base
open Go.RowKit Go.Proofs.YtaiefdhenikiiaaW.PrintWords Go.Proofs.YtaiefdhenikiiaaW.PrintLast Go.Proofs.YtaiefdhenikiiaaW.PrintMore
set_option linter.unusedVariables false
set_option linter.unusedSimpArgs false
theorem keep3 {w W:World} {a1 a2 a3:Addr} {v1 v2 v3:Value} (p1:w.cell? a1=some v1) (p2:w.cell? a2=some v2) (p3:w.cell? a3=some v3) (hb:Below w.heap.size w W) :
    W.cell? a1=some v1∧W.cell? a2=some v2∧W.cell? a3=some v3:=⟨qs_ hb p1,qs_ hb p2,qs_ hb p3⟩
theorem nil_tms (W:World):TmsC W none 0 []:=⟨⟨rfl,by simp,fun h=>absurd h (by simp)⟩,Nat.le_refl _,by simp⟩
end Go.Proofs.Ytaiefdhenikiiaa.Base
namespace Go.Proofs.Ytaiefdhenikiiaa.Base
open Go.RowKit Go.Proofs.YtaiefdhenikiiaaW.PrintWords Go.Proofs.YtaiefdhenikiiaaW.PrintLast Go.Proofs.YtaiefdhenikiiaaW.PrintMore
set_option linter.unusedVariables false
set_option linter.unusedSimpArgs false
theorem keepE8 {w W:World} {a1 a2 a3 a4 a5 a6 a7 a8:Addr} {v1 v2 v3 v4 v5 v6 v7 v8:Value} (p1:w.cell? a1=some v1) (p2:w.cell? a2=some v2) (p3:w.cell? a3=some v3) (p4:w.cell? a4=some v4) (p5:w.cell? a5=some v5) (p6:w.cell? a6=some v6) (p7:w.cell? a7=some v7) (p8:w.cell? a8=some v8) (hb:Below w.heap.size w W) :
    W.cell? a1=some v1∧W.cell? a2=some v2∧W.cell? a3=some v3∧W.cell? a4=some v4∧W.cell? a5=some v5∧W.cell? a6=some v6∧W.cell? a7=some v7∧W.cell? a8=some v8 :=
  ⟨qs_ hb p1,qs_ hb p2,qs_ hb p3,qs_ hb p4,qs_ hb p5,qs_ hb p6,qs_ hb p7,qs_ hb p8⟩
theorem R_box3 {W:World} {b base:Nat} {v:Value} {l:List S79} (h:TermsR W base v l) {cs:Array Value} (hz:W.heap[b]?=some (.cells cs 38 (0,0))) (x0 x1 x2:Value):TermsR (((W.setCell ⟨b,0,none⟩ x0).setCell ⟨b,1,none⟩ x1).setCell ⟨b,2,none⟩ x2) base v l :=
  Kd.R_set (Kd.R_set (Kd.R_set h hz (by decide) 0 _) (qr_ hz 0 _) (by decide) 1 _) (qr_ (qr_ hz 0 _) 1 _) (by decide) 2 _
theorem blk_box3 {W:World} {b:Nat} {cs:Array Value} (hz:W.heap[b]?=some (.cells cs 38 (0,0))) (x0 x1 x2:Value):(((W.setCell ⟨b,0,none⟩ x0).setCell ⟨b,1,none⟩ x1).setCell ⟨b,2,none⟩ x2).heap[b]?=some (.cells (((cs.setIfInBounds 0 x0).setIfInBounds 1 x1).setIfInBounds 2 x2) 38 (0,0)):=qr_ (qr_ (qr_ hz 0 _) 1 _) 2 _
theorem blk_far3 {W:World} {b c:Nat} {cs:Array Value} {t:TypeId} (hz:W.heap[b]?=some (.cells cs t (0,0))) (hne:b ≠ c) (x0 x1 x2:Value):(((W.setCell ⟨c,0,none⟩ x0).setCell ⟨c,1,none⟩ x1).setCell ⟨c,2,none⟩ x2).heap[b]?=some (.cells cs t (0,0)):=qb2_ (qb2_ (qb2_ hz hne _) hne _) hne _
theorem SrAt.far3 {W:World} {b c:Nat} {D N:Int} {v:Value} (hz:SrAt W b D N v) (hne:b ≠ c) (x0 x1 x2:Value):SrAt (((W.setCell ⟨c,0,none⟩ x0).setCell ⟨c,1,none⟩ x1).setCell ⟨c,2,none⟩ x2) b D N v:=blk_far3 hz hne _ _ _
theorem SrAt.box3 {W:World} {b:Nat} {D N D2 N2:Int} {v v2:Value} (hz:SrAt W b D N v):SrAt (((W.setCell ⟨b,0,none⟩ (.int .i64 D2)).setCell ⟨b,1,none⟩ (.int .i64 N2)).setCell ⟨b,2,none⟩ v2) b D2 N2 v2:=qr_ (qr_ (qr_ hz 0 _) 1 _) 2 _
theorem qy2_ {w W:World} {B b:Nat} (h:Below B w W) (hb:B≤b) (x0 x1 x2:Value):Below B w (((W.setCell ⟨b,0,none⟩ x0).setCell ⟨b,1,none⟩ x1).setCell ⟨b,2,none⟩ x2):=((h.setCell hb _).setCell hb _).setCell hb _
theorem unitS (W:World) {d n:Nat} (hs:Sz d n) {A:Option Addr} {c:Nat} {l:List S79} (H:TmsC W A c l):Calls Try.prog 132 #[.agg #[.int .i64 (d:Int),.int .i64 (n:Int),.slice A l.length c]] W fun e w'=>∃ (A6:Option Addr) (c6:Nat),e=.returned (.agg #[.int .i64 (d:Int),.int .i64 (n:Int),.slice A6 (termsT (unitT d n)).length c6])∧TermsR w' W.heap.size (.slice A6 (termsT (unitT d n)).length c6) (termsT (unitT d n))∧Below W.heap.size W w':=by
  refine (qp2_.calls _ _ _ _ _ (d:Int) (n:Int) (termsT (unitT d n)) _ H.row H.cap (by rw [unit_terms hs];rfl)).mono ?_
  rintro e w' ⟨v,rfl,hv,hb⟩
  obtain ⟨A6,c6,rfl⟩:=Kd.qa2_ hv
  exact ⟨A6,c6,rfl,hv,hb⟩
theorem emptyZ (W:World) (d n:Nat) {A:Option Addr} {c:Nat} {l:List S79} (H:TmsC W A c l):Calls Try.prog 108 #[.agg #[.int .i64 (d:Int),.int .i64 (n:Int),.slice A l.length c]] W fun e w'=>∃ (A6:Option Addr) (c6:Nat),e=.returned (.agg #[.int .i64 (d:Int),.int .i64 (n:Int),.slice A6 (termsT (zeroT d n)).length c6])∧TermsR w' W.heap.size (.slice A6 (termsT (zeroT d n)).length c6) (termsT (zeroT d n))∧Below W.heap.size W w':=by
  refine (emptyS W d n H).mono ?_
  rintro e w' ⟨v,rfl,hv,hb⟩
  obtain ⟨A6,c6,rfl⟩:=Kd.qa2_ hv
  rw [zero_terms]
  exact ⟨A6,c6,rfl,hv,hb⟩
theorem frow_at {w:World} {A:Option Addr} {m:Nat} {xs:List S77} (h:Kd.C k77 w A m xs) (i:Nat) (h1:i < m) (h2:i < xs.length):∃ ad,A=some ad∧w.cell? (ad.add (i * 2))=some (.int .i64 xs[i].f0)∧w.cell? ⟨(ad.add (i * 2)).block,(ad.add (i * 2)).off+1,none⟩=some (.int .i64 xs[i].f1):=by
  obtain ⟨ad,e,t0,t1⟩:=at_T77 h (i:Int) (by omega) (by omega)
  have e1:rd_T77 xs (i:Int)=xs[i]:=by simp [rd_T77,List.getD_eq_getElem?_getD,List.getElem?_eq_getElem h2]
  rw [e1,Int.toNat_natCast] at t0 t1
  exact ⟨ad,e,t0,t1⟩
set_option maxHeartbeats 32000000 in
set_option maxRecDepth 100000 in
theorem sumSp (w:World) (d n:Nat) (hs:Sz d n) {t:Tb} (ht:Like t (zeroT d n)) (hbt:t.bad=false) {A B:Option Addr} {ca cb:Nat} (hA:TmsC w A ca (termsT t)) {nums:List S77} (hB:Kd.C k77 w B nums.length nums) (first:Nat) (F:Nat→S77) (hf1:first≤1) (hlen:nums.length=n+1)
    (hnum:∀ k (h:k < nums.length),nums[k]=if first≤k then F k else zeroF) (hF:∀ k,k≤n→first≤k→okF (F k)∧(F k).f0 ≠ 0) :
    Calls Try.prog 169 #[.agg #[.int .i64 (d:Int),.int .i64 (n:Int),.slice A (termsT t).length ca],.slice B nums.length cb] w (OutR w d n (outT (powersT t (zeroT d n) first F))):=by
  have hu2:=Try.underlying38
  have hu3:=Try.underlying77
  have HA:=Aside0.mk hA
  have HBR:=Aside0.mk hB
  have HS:=Aside0.mk hs
  have HTL:=Aside0.mk ht
  have HTB:=Aside0.mk hbt
  have HN:=Aside0.mk hnum
  have HF:=Aside0.mk hF
  have HF1:=Aside0.mk hf1
  obtain ⟨R,hR⟩:∃ R,R=outT (powersT t (zeroT d n) first F):=⟨_,rfl⟩
  rw [← hR]
  have HBad1:=Aside0.mk (show ∀ k,k≤n+1→(powersS t (zeroT d n) first F k).1.bad=true→R=none from fun k hk h=>by rw [hR];exact outT_bad (powers_bad (p:=zeroT d n) hk h))
  have HBad2:=Aside0.mk (show ∀ k,k < n+1→0 < k→(timesT (powersS t (zeroT d n) first F k).2 t).bad=true→R=none from fun k hk h0 h=>by rw [hR];exact outT_bad (powers_bad2 (p:=zeroT d n) hk h0 (by omega) h))
  have HEnd:=Aside0.mk (show (powersT t (zeroT d n) first F).bad=false→R=some (termsT (powersT t (zeroT d n) first F)) from fun h=>by rw [hR];exact outT_good h)
  have HLen:=Aside0.mk hlen
  obtain ⟨lt,hlt0⟩:∃ x,x=termsT t:=⟨_,rfl⟩
  have HLT:=Aside0.mk hlt0
  rw [← hlt0] at HA ⊢
  clear hA hB hs ht hbt hnum hF hR hlt0 hf1 hlen
  go_enter Try.func169,Try.ntmps169
  go_wp2
  generalize hW:World.alloc _ _=W0
  have HX0:=Aside0.mk (show SrAt W0 w.heap.size d n (.slice A lt.length ca) from by rw [← hW];exact old_at (new_at rfl))
  have HR0:=Aside0.mk (show SrAt W0 (w.heap.size+1) 0 0 (.slice none 0 0) from by rw [← hW];exact new_at (by simp))
  have HB0:=Aside0.mk (show Below w.heap.size w W0 from by rw [← hW];exact qb_ (qb_ (Below.refl _ _) _) _)
  have HA0:=Aside0.mk (HA.out.below HB0.out)
  have p0:=HX0.out.c0
  have p1:=HX0.out.c1
  have p2:=HX0.out.c2
  clear hW
  go_cut [6,7] (fun v6 v7 wx=>∃ (b6 b7:Nat) (A6 A7:Option Addr) (c6 c7:Nat),v6=.pointer (some ⟨b6,0,none⟩)∧v7=.pointer (some ⟨b7,0,none⟩)∧Aside0 (SrAt wx b6 d n (.slice A6 (termsT (unitT d n)).length c6))∧Aside0 (SrAt wx b7 d n (.slice A7 (termsT (zeroT d n)).length c7))∧Aside0 (TermsR wx w.heap.size (.slice A6 (termsT (unitT d n)).length c6) (termsT (unitT d n)))∧Aside0 (TermsR wx w.heap.size (.slice A7 (termsT (zeroT d n)).length c7) (termsT (zeroT d n)))∧Aside0 (b6 ≠ b7∧W0.heap.size≤b6∧W0.heap.size≤b7)∧Aside0 (Below W0.heap.size W0 wx))
  case first =>
    go_region_held3 (fun w'=>w'.cell? ⟨w.heap.size,0,none⟩=some (.int .i64 (d:Int))∧w'.cell? ⟨w.heap.size,1,none⟩=some (.int .i64 (n:Int))∧w'.cell? ⟨w.heap.size,2,none⟩=some (.slice A lt.length ca)) (exact keep3 p0 p1 p2 (by (repeat' (first|(with_reducible exact Below.refl _ _)|(with_reducible exact HB7.out)|(with_reducible exact HB6.out)|(with_reducible refine Below.setCell ?_ ?_ _)|(with_reducible refine qc_ ?_)|(with_reducible refine qa_ ?_ _)|(with_reducible refine qb_ ?_ _)|(simp;done)|(simp;omega)|(have h6_:=HB6.out.size;simp;omega)|(have h7_:=HB7.out.size;simp;omega))))) (first
      | (go_at_call 132;refine (unitS _ HS.out (HA0.out.below (by repeat (first|(with_reducible exact Below.refl _ _)|(with_reducible refine qc_ ?_)|(with_reducible refine qa_ ?_ _)|(with_reducible refine qb_ ?_ _))))).mono ?_;rintro e w6 ⟨A6,c6,rfl,hv,hb⟩;have HX6:=Aside0.mk hb;have HB6:=Aside0.mk (show Below W0.heap.size W0 w6 from qe_ (by repeat (first|(with_reducible exact Below.refl _ _)|(with_reducible refine qc_ ?_)|(with_reducible refine qa_ ?_ _)|(with_reducible refine qb_ ?_ _))) hb);have HV6:=Aside0.mk (show TermsR w6 w.heap.size (.slice A6 (termsT (unitT d n)).length c6) (termsT (unitT d n)) from Kd.qi2_ hv (Nat.le_trans HB0.out.size (qk_ (show Below W0.heap.size W0 _ from (by repeat (first|(with_reducible exact Below.refl _ _)|(with_reducible refine qc_ ?_)|(with_reducible refine qa_ ?_ _)|(with_reducible refine qb_ ?_ _)))))));(first|(refine (fun (Za:w6.heap[W0.heap.size]?=some (.cells #[.int .i64 0,.int .i64 0,.slice none 0 0] 38 (0,0)))=>?_) (ql_ ?_ hb);rotate_left;(first|exact drew_at (old_at (new_at rfl))|exact old_at (new_at rfl)|exact drew_at (new_at rfl)|exact new_at rfl);have HZa:=Aside0.mk Za;have lZa:=blk_lt Za;have nZa:=Nat.ne_of_lt lZa;have mZa:=Nat.ne_of_gt lZa;have c0Za:=qj_ Za 0;have c1Za:=qj_ Za 1;have c2Za:=qj_ Za 2;have f0Za:=qd_ Za 0;have f1Za:=qd_ Za 1;have f2Za:=qd_ Za 2;clear Za)|skip);(first|(refine (fun (Zb:w6.heap[W0.heap.size+1]?=some (.cells #[.int .i64 0,.int .i64 0,.slice none 0 0] 38 (0,0)))=>?_) (ql_ ?_ hb);rotate_left;(first|(focus (refine drew_at (new_at ?_);simp;done))|(focus (refine new_at ?_;simp;done)));have HZb:=Aside0.mk Zb;have lZb:=blk_lt Zb;have nZb:=Nat.ne_of_lt lZb;have mZb:=Nat.ne_of_gt lZb;have c0Zb:=qj_ Zb 0;have c1Zb:=qj_ Zb 1;have c2Zb:=qj_ Zb 2;have f0Zb:=qd_ Zb 0;have f1Zb:=qd_ Zb 1;have f2Zb:=qd_ Zb 2;clear Zb)|skip);clear hv hb)
      | (go_at_call 108;refine (emptyZ _ d n (HA0.out.below (by repeat (first|(with_reducible exact Below.refl _ _)|(with_reducible exact HB6.out)|(with_reducible refine qc_ ?_)|(with_reducible refine qa_ ?_ _)|(with_reducible refine qb_ ?_ _))))).mono ?_;rintro e w7 ⟨A7,c7,rfl,hv,hb⟩;have HX7:=Aside0.mk hb;have HB7:=Aside0.mk (show Below W0.heap.size W0 w7 from qe_ (by repeat (first|(with_reducible exact Below.refl _ _)|(with_reducible exact HB6.out)|(with_reducible refine qc_ ?_)|(with_reducible refine qa_ ?_ _)|(with_reducible refine qb_ ?_ _))) hb);have HV67:=Aside0.mk (show TermsR w7 w.heap.size (.slice A6 (termsT (unitT d n)).length c6) (termsT (unitT d n)) from Kd.qe2_ (by repeat' (first|(with_reducible exact HV6.out)|(with_reducible refine Kd.qc1_ ?_ _)|(with_reducible refine Kd.R_drew ?_))) hb);have HV7:=Aside0.mk (show TermsR w7 w.heap.size (.slice A7 (termsT (zeroT d n)).length c7) (termsT (zeroT d n)) from Kd.qi2_ hv (Nat.le_trans HB0.out.size (qk_ (show Below W0.heap.size W0 _ from (by repeat (first|(with_reducible exact Below.refl _ _)|(with_reducible exact HB6.out)|(with_reducible refine qc_ ?_)|(with_reducible refine qa_ ?_ _)|(with_reducible refine qb_ ?_ _)))))));(first|(refine (fun (Za7:w7.heap[W0.heap.size]?=some (.cells #[.int .i64 0,.int .i64 0,.slice none 0 0] 38 (0,0)))=>?_) (ql_ ?_ hb);rotate_left;(first|exact HZa.out|exact drew_at HZa.out|exact old_at HZa.out|exact old_at (old_at HZa.out)|exact drew_at (old_at HZa.out)|exact drew_at (old_at (old_at HZa.out)));have HZa7:=Aside0.mk Za7;have lZa7:=blk_lt Za7;have nZa7:=Nat.ne_of_lt lZa7;have mZa7:=Nat.ne_of_gt lZa7;have c0Za7:=qj_ Za7 0;have c1Za7:=qj_ Za7 1;have c2Za7:=qj_ Za7 2;have f0Za7:=qd_ Za7 0;have f1Za7:=qd_ Za7 1;have f2Za7:=qd_ Za7 2;clear Za7)|skip);(first|(refine (fun (Zb7:w7.heap[W0.heap.size+1]?=some (.cells #[.int .i64 0,.int .i64 0,.slice none 0 0] 38 (0,0)))=>?_) (ql_ ?_ hb);rotate_left;(first|exact HZb.out|exact drew_at HZb.out|exact old_at HZb.out|exact old_at (old_at HZb.out)|exact drew_at (old_at HZb.out)|exact drew_at (old_at (old_at HZb.out)));have HZb7:=Aside0.mk Zb7;have lZb7:=blk_lt Zb7;have nZb7:=Nat.ne_of_lt lZb7;have mZb7:=Nat.ne_of_gt lZb7;have c0Zb7:=qj_ Zb7 0;have c1Zb7:=qj_ Zb7 1;have c2Zb7:=qj_ Zb7 2;have f0Zb7:=qd_ Zb7 0;have f1Zb7:=qd_ Zb7 1;have f2Zb7:=qd_ Zb7 2;clear Zb7)|skip);(first|(refine (fun (Zc:w7.heap[w6.heap.size]?=some (.cells #[.int .i64 0,.int .i64 0,.slice none 0 0] 38 (0,0)))=>?_) (ql_ ?_ hb);rotate_left;(first|exact drew_at (old_at (new_at rfl))|exact old_at (new_at rfl)|exact drew_at (new_at rfl)|exact new_at rfl);have HZc:=Aside0.mk Zc;have lZc:=blk_lt Zc;have nZc:=Nat.ne_of_lt lZc;have mZc:=Nat.ne_of_gt lZc;have c0Zc:=qj_ Zc 0;have c1Zc:=qj_ Zc 1;have c2Zc:=qj_ Zc 2;have f0Zc:=qd_ Zc 0;have f1Zc:=qd_ Zc 1;have f2Zc:=qd_ Zc 2;clear Zc)|skip);(first|(refine (fun (Zd:w7.heap[w6.heap.size+1]?=some (.cells #[.int .i64 0,.int .i64 0,.slice none 0 0] 38 (0,0)))=>?_) (ql_ ?_ hb);rotate_left;(first|(focus (refine drew_at (new_at ?_);simp;done))|(focus (refine new_at ?_;simp;done)));have HZd:=Aside0.mk Zd;have lZd:=blk_lt Zd;have nZd:=Nat.ne_of_lt lZd;have mZd:=Nat.ne_of_gt lZd;have c0Zd:=qj_ Zd 0;have c1Zd:=qj_ Zd 1;have c2Zd:=qj_ Zd 2;have f0Zd:=qd_ Zd 0;have f1Zd:=qd_ Zd 1;have f2Zd:=qd_ Zd 2;clear Zd)|skip);clear hv hb))
    all_goals
      go_wp2_with fail
      go_meet
      case rel =>
        refine ⟨_,_,A6,A7,c6,c7,rfl,rfl,⟨?_⟩,⟨?_⟩,⟨?_⟩,⟨?_⟩,⟨?_,?_,?_⟩,⟨?_⟩⟩
        · (repeat' (first|((with_reducible refine SrAt.new ?_);simp;done)|(with_reducible refine SrAt.put3 ?_ _ _ _)|((with_reducible refine SrAt.far3 ?_ ?_ _ _ _);rotate_left;(focus (first|(simp;done)|(simp;omega)|(have h6_:=HX6.out.size;simp at h6_;simp;omega)|(have h6_:=HX6.out.size;have h7_:=HX7.out.size;simp at h6_ h7_;simp;omega))))|(with_reducible refine SrAt.alloc ?_ _)|(with_reducible refine SrAt.drew ?_)|(with_reducible exact HZa7.out)|(with_reducible exact HZb7.out)|(with_reducible exact HZc.out)|(with_reducible exact HZd.out)|((with_reducible refine new_at ?_);simp;done)|(with_reducible refine old_at ?_)|(with_reducible refine drew_at ?_)|((with_reducible refine blk_far3 ?_ ?_ _ _ _);rotate_left;(focus (first|(simp;done)|(simp;omega)|(have h6_:=HX6.out.size;simp at h6_;simp;omega)|(have h6_:=HX6.out.size;have h7_:=HX7.out.size;simp at h6_ h7_;simp;omega))))|(with_reducible refine blk_box3 ?_ _ _ _)))
        · (repeat' (first|((with_reducible refine SrAt.new ?_);simp;done)|(with_reducible refine SrAt.put3 ?_ _ _ _)|((with_reducible refine SrAt.far3 ?_ ?_ _ _ _);rotate_left;(focus (first|(simp;done)|(simp;omega)|(have h6_:=HX6.out.size;simp at h6_;simp;omega)|(have h6_:=HX6.out.size;have h7_:=HX7.out.size;simp at h6_ h7_;simp;omega))))|(with_reducible refine SrAt.alloc ?_ _)|(with_reducible refine SrAt.drew ?_)|(with_reducible exact HZa7.out)|(with_reducible exact HZb7.out)|(with_reducible exact HZc.out)|(with_reducible exact HZd.out)|((with_reducible refine new_at ?_);simp;done)|(with_reducible refine old_at ?_)|(with_reducible refine drew_at ?_)|((with_reducible refine blk_far3 ?_ ?_ _ _ _);rotate_left;(focus (first|(simp;done)|(simp;omega)|(have h6_:=HX6.out.size;simp at h6_;simp;omega)|(have h6_:=HX6.out.size;have h7_:=HX7.out.size;simp at h6_ h7_;simp;omega))))|(with_reducible refine blk_box3 ?_ _ _ _)))
        · (repeat' (first|(with_reducible exact HV67.out)|(with_reducible refine R_box3 (cs:=?_) ?_ ?_ _ _ _)|(with_reducible refine Kd.qc1_ ?_ _)|(with_reducible refine Kd.R_drew ?_)|(with_reducible exact HZa7.out)|(with_reducible exact HZb7.out)|(with_reducible exact HZc.out)|(with_reducible exact HZd.out)|((with_reducible refine new_at ?_);simp;done)|(with_reducible refine old_at ?_)|(with_reducible refine drew_at ?_)|((with_reducible refine blk_far3 ?_ ?_ _ _ _);rotate_left;(focus (first|(simp;done)|(simp;omega)|(have h6_:=HX6.out.size;simp at h6_;simp;omega)|(have h6_:=HX6.out.size;have h7_:=HX7.out.size;simp at h6_ h7_;simp;omega))))|(with_reducible refine blk_box3 ?_ _ _ _)))
        · (repeat' (first|(with_reducible exact HV7.out)|(with_reducible refine R_box3 (cs:=?_) ?_ ?_ _ _ _)|(with_reducible refine Kd.qc1_ ?_ _)|(with_reducible refine Kd.R_drew ?_)|(with_reducible exact HZa7.out)|(with_reducible exact HZb7.out)|(with_reducible exact HZc.out)|(with_reducible exact HZd.out)|((with_reducible refine new_at ?_);simp;done)|(with_reducible refine old_at ?_)|(with_reducible refine drew_at ?_)|((with_reducible refine blk_far3 ?_ ?_ _ _ _);rotate_left;(focus (first|(simp;done)|(simp;omega)|(have h6_:=HX6.out.size;simp at h6_;simp;omega)|(have h6_:=HX6.out.size;have h7_:=HX7.out.size;simp at h6_ h7_;simp;omega))))|(with_reducible refine blk_box3 ?_ _ _ _)))
        · (first|(simp;done)|(simp;omega)|(have h6_:=HX6.out.size;simp at h6_;simp;omega)|(have h6_:=HX6.out.size;have h7_:=HX7.out.size;simp at h6_ h7_;simp;omega))
        · (have h6_:=HB6.out.size;have h7_:=HB7.out.size;first|(simp;done)|(simp;omega)|omega)
        · (have h6_:=HB6.out.size;have h7_:=HB7.out.size;first|(simp;done)|(simp;omega)|omega)
        · (repeat' (first|(with_reducible exact Below.refl _ _)|(with_reducible exact HB7.out)|(with_reducible exact HB6.out)|(with_reducible refine Below.setCell ?_ ?_ _)|(with_reducible refine qc_ ?_)|(with_reducible refine qa_ ?_ _)|(with_reducible refine qb_ ?_ _)|(simp;done)|(simp;omega)|(have h6_:=HB6.out.size;simp;omega)|(have h7_:=HB7.out.size;simp;omega)))
  case rest =>
    obtain ⟨b6,b7,A6,A7,c6,c7,rfl,rfl,HS6,HS7,HV6,HV7,HNE,HM⟩:=hcut
    clear p0 p1 p2
    have HW0:=Aside0.mk (show w.heap.size+1 < b6∧w.heap.size+1 < b7 from by have h1:=HR0.out.lt;have h2:=HNE.out;omega)
    have HP0:=Aside0.mk (show (powersS t (zeroT d n) first F 0).1=zeroT d n∧(powersS t (zeroT d n) first F 0).2=unitT d n from ⟨rfl,rfl⟩)
    go_wp2
    go_loopg [8] (n+1) (fun gg v8 wr=>∃ (k:Nat) (A6 A7:Option Addr) (c6 c7:Nat),k≤n+1∧n+1 - k≤gg∧v8=.int .i64 k∧Aside0 ((powersS t (zeroT d n) first F k).1.bad=false∧(powersS t (zeroT d n) first F k).2.bad=false)∧Aside0 (SrAt wr b6 d n (.slice A6 (termsT (powersS t (zeroT d n) first F k).2).length c6))∧Aside0 (SrAt wr b7 d n (.slice A7 (termsT (powersS t (zeroT d n) first F k).1).length c7))∧Aside0 (TermsR wr w.heap.size (.slice A6 (termsT (powersS t (zeroT d n) first F k).2).length c6) (termsT (powersS t (zeroT d n) first F k).2))∧Aside0 (TermsR wr w.heap.size (.slice A7 (termsT (powersS t (zeroT d n) first F k).1).length c7) (termsT (powersS t (zeroT d n) first F k).1))∧Aside0 (SrAt wr w.heap.size d n (.slice A lt.length ca))∧Aside0 (SrAt wr (w.heap.size+1) 0 0 (.slice none 0 0))∧Aside0 (Below w.heap.size w wr))
    case atStart=>exact ⟨0,A6,A7,c6,c7,Nat.zero_le _,by omega,rfl,⟨rfl,rfl⟩,HS6,HS7,HV6,HV7,⟨HX0.out.below HM.out⟩,⟨HR0.out.below HM.out⟩,⟨qe_ HB0.out HM.out⟩⟩
    case round =>
      clear HS6 HS7 HV6 HV7 HX0 HR0 HB0 HM HA0
      obtain ⟨k,A6,A7,c6,c7,hk,hg,rfl,HG,HS6,HS7,HV6,HV7,HSX,HSR,HB⟩:=hrel
      obtain ⟨O,hO⟩:∃ x,x=(powersS t (zeroT d n) first F k).1:=⟨_,rfl⟩
      obtain ⟨P,hP⟩:∃ x,x=(powersS t (zeroT d n) first F k).2:=⟨_,rfl⟩
      have hlk:=powersS_like (t:=t) (p:=zeroT d n) first F HS.out k
      rw [← hO,← hP] at hlk HG
      rw [← hP] at HS6 HV6
      rw [← hO] at HS7 HV7
      have HOL:=Aside0.mk hlk.1
      have HPL:=Aside0.mk hlk.2
      have HOE:=Aside0.mk hO
      obtain ⟨Pn,hPn⟩:∃ x,x=(if 0 < k then timesT P t else P):=⟨_,rfl⟩
      have HPnL:=Aside0.mk (show Like Pn (zeroT d n) from by rw [hPn];split;exact timesT_like' hlk.2;exact hlk.2)
      have HNX:=Aside0.mk (show powersS t (zeroT d n) first F (k+1)=(if first≤k then sumT O (scaleT Pn (F k)) else O,Pn) from by
        rw [powersS_succ]
        show powersStep t first F _ k=_
        rw [hPn,hO,hP];rfl)
      have HB2:=Aside0.mk (show k < n+1→0 < k→(timesT P t).bad=true→R=none from fun h1 h2 h3=>HBad2.out k h1 h2 (by rw [← hP];exact h3))
      have HPN:=Aside0.mk hPn
      clear hO hP hlk hPn
      by_cases hlt:k < n+1
      · have hltz:(k:Int) < (nums.length:Int):=by rw [HLen.out];omega
        have hkl:k < nums.length:=by rw [HLen.out];exact hlt
        obtain ⟨ad,hB1,t0,t1⟩:=frow_at (Kd.qw1_ HBR.out HB.out) k hkl hkl
        subst hB1
        have HROW:=Aside0.mk (show ∀ W,Below w.heap.size w W→W.cell? (ad.add (k * 2))=some (.int .i64 nums[k].f0)∧W.cell? ⟨(ad.add (k * 2)).block,(ad.add (k * 2)).off+1,none⟩=some (.int .i64 nums[k].f1) from fun W hW=>by
          obtain ⟨ad2,e2,u0,u1⟩:=frow_at (Kd.qw1_ HBR.out hW) k hkl hkl
          obtain rfl:=Option.some.inj e2
          exact ⟨u0,u1⟩)
        have HNK:=Aside0.mk (HN.out k hkl)
        obtain ⟨z,hz⟩:∃ z,z=nums[k]:=⟨_,rfl⟩
        rw [← hz] at HROW HNK
        clear t0 t1 hz
        go_upto_if 24 with fail
        go_cut [] (fun wx=>∃ (A6:Option Addr) (c6:Nat),Aside0 (SrAt wx b6 d n (.slice A6 (termsT Pn).length c6))∧Aside0 (TermsR wx w.heap.size (.slice A6 (termsT Pn).length c6) (termsT Pn))∧Aside0 (SrAt wx b7 d n (.slice A7 (termsT O).length c7))∧Aside0 (TermsR wx w.heap.size (.slice A7 (termsT O).length c7) (termsT O))∧Aside0 (SrAt wx w.heap.size d n (.slice A lt.length ca))∧Aside0 (SrAt wx (w.heap.size+1) 0 0 (.slice none 0 0))∧Aside0 (Below w.heap.size w wx)∧Aside0 (Pn.bad=false))
        case first =>
          by_cases hk0:k=0
          · have hkz:¬ ((k:Int) > 0):=by omega
            have hpe:Pn=P:=by rw [HPN.out,if_neg (by omega)]
            clear hk0
            go_wp2
            go_meet
            case rel=>rw [hpe];exact ⟨A6,c6,HS6,HV6,HS7,HV7,HSX,HSR,HB,⟨HG.out.2⟩⟩
          · have hkz:(k:Int) > 0:=by omega
            have hpe:Pn=timesT P t:=by rw [HPN.out,if_pos (by omega)]
            have HTA:=Aside0.mk (show TmsC wr A6 c6 (termsT P) from (TmsC.of HV6.out (by have:=terms_len HPL.out HS.out;omega)).1)
            have HXR:=Aside0.mk (HA.out.below HB.out)
            have p0:=HS6.out.c0
            have p1:=HS6.out.c1
            have p2:=HS6.out.c2
            have q0:=HSX.out.c0
            have q1:=HSX.out.c1
            have q2:=HSX.out.c2
            by_cases hbad:(timesT P t).bad=true
            · have HRN:=Aside0.mk (HB2.out hlt (by omega) hbad)
              have HTM:=Aside0.mk (show ∀ W,TmsC W A6 c6 (termsT P)→TmsC W A ca lt→Calls Try.prog 133 #[.agg #[.int .i64 (d:Int),.int .i64 (n:Int),.slice A6 (termsT P).length c6],.agg #[.int .i64 (d:Int),.int .i64 (n:Int),.slice A lt.length ca]] W (OkRes W 0 0 [] false) from fun W h1 h2=>by
                rw [HLT.out] at h2 ⊢
                have:=timesS W d n HS.out HPL.out HTL.out HG.out.2 HTB.out h1 h2
                rwa [outT_bad hbad] at this)
              clear hbad hk0 hpe
              go_wp2_with (go_at_call 133;refine (HTM.out _ HTA.out HXR.out).mono ?_;rintro e w2 ⟨v,rfl,hv,hb⟩;obtain ⟨A2,c2,rfl⟩:=Kd.qa2_ hv;have HBn:=Aside0.mk (qe_ HB.out hb);have S:=HSR.out.below hb;have x0:(w2.alloc (.cells #[.int .i64 0,.int .i64 0,.slice A2 0 c2] 38)).cell? ⟨w.heap.size+1,0,none⟩=some (.int .i64 0):=(SrAt.alloc S _).c0;have xf0:(w2.alloc (.cells #[.int .i64 0,.int .i64 0,.slice A2 0 c2] 38)).frozen? ⟨w.heap.size+1,0,none⟩=false:=qd_ (SrAt.alloc S (.cells #[.int .i64 0,.int .i64 0,.slice A2 0 c2] 38)) 0;have x1:(w2.alloc (.cells #[.int .i64 0,.int .i64 0,.slice A2 0 c2] 38)).cell? ⟨w.heap.size+1,1,none⟩=some (.int .i64 0):=(SrAt.alloc S _).c1;have xf1:(w2.alloc (.cells #[.int .i64 0,.int .i64 0,.slice A2 0 c2] 38)).frozen? ⟨w.heap.size+1,1,none⟩=false:=qd_ (SrAt.alloc S (.cells #[.int .i64 0,.int .i64 0,.slice A2 0 c2] 38)) 1;have x2:(w2.alloc (.cells #[.int .i64 0,.int .i64 0,.slice A2 0 c2] 38)).cell? ⟨w.heap.size+1,2,none⟩=some (.slice none 0 0):=(SrAt.alloc S _).c2;have xf2:(w2.alloc (.cells #[.int .i64 0,.int .i64 0,.slice A2 0 c2] 38)).frozen? ⟨w.heap.size+1,2,none⟩=false:=qd_ (SrAt.alloc S (.cells #[.int .i64 0,.int .i64 0,.slice A2 0 c2] 38)) 2;have HS2:=Aside0.mk S;clear S hv hb)
              refine bodyPost_ret (results_ct rfl _ _ (w.heap.size+1) 38 _ (0,0) _ rfl (qr_ (qr_ (qr_ (HS2.out.alloc _) 0 _) 1 _) 2 _) hu2 rfl (by kernel_rfl)) rfl ?_
              rw [HRN.out]
              exact ⟨_,rfl,Kd.R_nil _ _ _ _ _,(((qb_ HBn.out _).setCell (Nat.le_add_right _ 1) _).setCell (Nat.le_add_right _ 1) _).setCell (Nat.le_add_right _ 1) _⟩
            · have hgood:(timesT P t).bad=false:=by simpa using hbad
              have HTM:=Aside0.mk (show ∀ W,TmsC W A6 c6 (termsT P)→TmsC W A ca lt→Calls Try.prog 133 #[.agg #[.int .i64 (d:Int),.int .i64 (n:Int),.slice A6 (termsT P).length c6],.agg #[.int .i64 (d:Int),.int .i64 (n:Int),.slice A lt.length ca]] W (OkRes W d n (termsT (timesT P t)) true) from fun W h1 h2=>by
                rw [HLT.out] at h2 ⊢
                have:=timesS W d n HS.out HPL.out HTL.out HG.out.2 HTB.out h1 h2
                rwa [outT_good hgood] at this)
              have HGD:=Aside0.mk (show Pn.bad=false from by rw [hpe];exact hgood)
              have HPE:=Aside0.mk hpe
              clear hbad hk0 hgood hpe
              go_wp2_with (go_at_call 133;refine (HTM.out _ HTA.out HXR.out).mono ?_;rintro e w2 ⟨v,rfl,hv,hb⟩;obtain ⟨A2,c2,rfl⟩:=Kd.qa2_ hv;have HBn:=Aside0.mk (qe_ HB.out hb);have HV2:=Aside0.mk (show TermsR w2 w.heap.size (.slice A2 (termsT (timesT P t)).length c2) (termsT (timesT P t)) from Kd.qi2_ hv HB.out.size);have S:=HS6.out.below hb;have x0:(w2.alloc (.cells #[.int .i64 (d:Int),.int .i64 (n:Int),.slice A2 (termsT (timesT P t)).length c2] 38)).cell? ⟨b6,0,none⟩=some (.int .i64 (d:Int)):=(SrAt.alloc S _).c0;have xf0:(w2.alloc (.cells #[.int .i64 (d:Int),.int .i64 (n:Int),.slice A2 (termsT (timesT P t)).length c2] 38)).frozen? ⟨b6,0,none⟩=false:=qd_ (SrAt.alloc S (.cells #[.int .i64 (d:Int),.int .i64 (n:Int),.slice A2 (termsT (timesT P t)).length c2] 38)) 0;have x1:(w2.alloc (.cells #[.int .i64 (d:Int),.int .i64 (n:Int),.slice A2 (termsT (timesT P t)).length c2] 38)).cell? ⟨b6,1,none⟩=some (.int .i64 (n:Int)):=(SrAt.alloc S _).c1;have xf1:(w2.alloc (.cells #[.int .i64 (d:Int),.int .i64 (n:Int),.slice A2 (termsT (timesT P t)).length c2] 38)).frozen? ⟨b6,1,none⟩=false:=qd_ (SrAt.alloc S (.cells #[.int .i64 (d:Int),.int .i64 (n:Int),.slice A2 (termsT (timesT P t)).length c2] 38)) 1;have x2:(w2.alloc (.cells #[.int .i64 (d:Int),.int .i64 (n:Int),.slice A2 (termsT (timesT P t)).length c2] 38)).cell? ⟨b6,2,none⟩=some (.slice A6 (termsT P).length c6):=(SrAt.alloc S _).c2;have xf2:(w2.alloc (.cells #[.int .i64 (d:Int),.int .i64 (n:Int),.slice A2 (termsT (timesT P t)).length c2] 38)).frozen? ⟨b6,2,none⟩=false:=qd_ (SrAt.alloc S (.cells #[.int .i64 (d:Int),.int .i64 (n:Int),.slice A2 (termsT (timesT P t)).length c2] 38)) 2;have HS2:=Aside0.mk S;have HS72:=Aside0.mk (HS7.out.below hb);have HV72:=Aside0.mk (Kd.qe2_ HV7.out hb);have HSX2:=Aside0.mk (HSX.out.below hb);have HSR2:=Aside0.mk (HSR.out.below hb);clear S hv hb)
              go_meet
              case rel =>
                have hne:=HNE.out
                have hlo:=HW0.out
                refine ⟨A2,c2,⟨?_⟩,⟨?_⟩,⟨?_⟩,⟨?_⟩,⟨?_⟩,⟨?_⟩,⟨?_⟩,HGD⟩
                · rw [HPE.out];exact SrAt.box3 (HS2.out.alloc _)
                · rw [HPE.out];exact R_box3 (Kd.qc1_ HV2.out _) (HS2.out.alloc _) _ _ _
                · exact (HS72.out.alloc _).far3 (fun e=>hne.1 e.symm) _ _ _
                · exact R_box3 (Kd.qc1_ HV72.out _) (HS2.out.alloc _) _ _ _
                · exact (HSX2.out.alloc _).far3 (by omega) _ _ _
                · exact (HSR2.out.alloc _).far3 (by omega) _ _ _
                · exact qy2_ (qb_ HBn.out _) (by omega) _ _ _
        case rest =>
          obtain ⟨A6,c6,HS6,HV6,HS7,HV7,HSX,HSR,HB,HPB⟩:=hcut
          obtain ⟨w2,hw2⟩:∃ x,x=wc:=⟨_,rfl⟩
          rw [← hw2] at HS6 HV6 HS7 HV7 HSX HSR HB ⊢
          clear hw2
          obtain ⟨t0,t1⟩:=HROW.out _ HB.out
          by_cases hf:first≤k
          · have hzf:z=F k:=by have:=HNK.out;rwa [if_pos hf] at this
            have HFK:=Aside0.mk (show okF z∧z.f0 ≠ 0 from by rw [hzf];exact HF.out k (by omega) hf)
            have HN1:=Aside0.mk (show powersS t (zeroT d n) first F (k+1)=(sumT O (scaleT Pn z),Pn) from by rw [HNX.out,if_pos hf,hzf])
            have HZ:=Aside0.mk (show ∀ W,Calls Try.prog 141 #[.agg #[.int .i64 z.f0,.int .i64 z.f1]] W fun e w'=>e=.returned (.bool false)∧Below W.heap.size W w' from fun W=>by have:=zeroS W z;rwa [show (z.f0 == 0)=false from by simpa using HFK.out.2] at this)
            have HAD:=Aside0.mk (show ∀ W A1 c1 A2 c2,TmsC W A1 c1 (termsT O)→TmsC W A2 c2 (termsT Pn)→Calls Try.prog 125 #[.agg #[.int .i64 (d:Int),.int .i64 (n:Int),.slice A1 (termsT O).length c1],.agg #[.int .i64 (d:Int),.int .i64 (n:Int),.slice A2 (termsT Pn).length c2],.agg #[.int .i64 z.f0,.int .i64 z.f1]] W (OutR W d n (outT (sumT O (scaleT Pn z)))) from fun W A1 c1 A2 c2 h1 h2=>by
              have z1:=terms_len HOL.out HS.out
              have z2:=terms_len HPnL.out HS.out
              have:=addFS W d n d n h1 h2 (terms_okL HOL.out.2.2) (terms_okL HPnL.out.2.2) (by omega) z HFK.out.1
              rwa [addS_terms O Pn (zeroT d n) HS.out HOL.out HPnL.out HG.out.1 HPB.out z HFK.out.1 HFK.out.2] at this)
            clear hf hzf
            go_wp2_with (go_at_call 141;refine (HZ.out _).mono ?_;rintro e w3 ⟨rfl,hb⟩;have HB3:=Aside0.mk hb;clear hb)
            have HS63:=Aside0.mk (HS6.out.below HB3.out)
            have HS73:=Aside0.mk (HS7.out.below HB3.out)
            have HBW:=Aside0.mk (qe_ HB.out HB3.out)
            have HC1:=Aside0.mk (show TmsC w3 A7 c7 (termsT O) from (TmsC.of (Kd.qe2_ HV7.out HB3.out) (by have:=terms_len HOL.out HS.out;omega)).1)
            have HC2:=Aside0.mk (show TmsC w3 A6 c6 (termsT Pn) from (TmsC.of (Kd.qe2_ HV6.out HB3.out) (by have:=terms_len HPnL.out HS.out;omega)).1)
            have p0:=HS73.out.c0
            have p1:=HS73.out.c1
            have p2:=HS73.out.c2
            have q0:=HS63.out.c0
            have q1:=HS63.out.c1
            have q2:=HS63.out.c2
            obtain ⟨u0,u1⟩:=HROW.out _ HBW.out
            clear t0 t1
            go_cut [11,12] (fun v11 v12 wx=>∃ (b9:Nat) (D N:Int) (Ax:Option Addr) (cx:Nat) (l9:List S79) (ok:Bool),v11=.pointer (some ⟨b9,0,none⟩)∧v12=.bool ok∧Aside0 (SrAt wx b9 D N (.slice Ax l9.length cx))∧Aside0 (TermsR wx w.heap.size (.slice Ax l9.length cx) l9)∧Aside0 (OutV d n (outT (sumT O (scaleT Pn z))) D N l9 ok)∧Aside0 (Below w3.heap.size w3 wx))
            case first =>
              go_region_held3 (fun w'=>w'.cell? ⟨b7,0,none⟩=some (.int .i64 (d:Int))∧w'.cell? ⟨b7,1,none⟩=some (.int .i64 (n:Int))∧w'.cell? ⟨b7,2,none⟩=some (.slice A7 (termsT O).length c7)∧w'.cell? ⟨b6,0,none⟩=some (.int .i64 (d:Int))∧w'.cell? ⟨b6,1,none⟩=some (.int .i64 (n:Int))∧w'.cell? ⟨b6,2,none⟩=some (.slice A6 (termsT Pn).length c6)∧w'.cell? (ad.add (k * 2))=some (.int .i64 z.f0)∧w'.cell? ⟨(ad.add (k * 2)).block,(ad.add (k * 2)).off+1,none⟩=some (.int .i64 z.f1)) (exact keepE8 p0 p1 p2 q0 q1 q2 u0 u1 (by (repeat' (first|(with_reducible exact Below.refl _ _)|(with_reducible exact HB6.out)|(with_reducible refine Below.setCell ?_ ?_ _)|(with_reducible refine qc_ ?_)|(with_reducible refine qa_ ?_ _)|(with_reducible refine qb_ ?_ _)|(simp;done)|(simp;omega)|(have h6_:=HB6.out.size;simp;omega))))) (first
                | (go_at_call 125;refine (HAD.out _ _ _ _ _ (HC1.out.below (by repeat (first|(with_reducible exact Below.refl _ _)|(with_reducible refine qc_ ?_)|(with_reducible refine qa_ ?_ _)|(with_reducible refine qb_ ?_ _)))) (HC2.out.below (by repeat (first|(with_reducible exact Below.refl _ _)|(with_reducible refine qc_ ?_)|(with_reducible refine qa_ ?_ _)|(with_reducible refine qb_ ?_ _))))).mono ?_;rintro e w6 h6;obtain ⟨D9,N9,A9,c9,l9,ok9,rfl,ho9,hv9,hb⟩:=h6.val;have HB6:=Aside0.mk (show Below w3.heap.size w3 w6 from qe_ (by repeat (first|(with_reducible exact Below.refl _ _)|(with_reducible refine qc_ ?_)|(with_reducible refine qa_ ?_ _)|(with_reducible refine qb_ ?_ _))) hb);have HO9:=Aside0.mk ho9;have HV9:=Aside0.mk (show TermsR w6 w.heap.size (.slice A9 l9.length c9) l9 from Kd.qi2_ hv9 (Nat.le_trans HBW.out.size (qk_ (show Below w3.heap.size w3 _ from (by repeat (first|(with_reducible exact Below.refl _ _)|(with_reducible refine qc_ ?_)|(with_reducible refine qa_ ?_ _)|(with_reducible refine qb_ ?_ _)))))));first|(refine (fun (Z:w6.heap[w3.heap.size]?=some (.cells #[.int .i64 0,.int .i64 0,.slice none 0 0] 38 (0,0)))=>?_) (ql_ ?_ hb);rotate_left;(first|exact drew_at (new_at rfl)|exact new_at rfl);have HZZ:=Aside0.mk Z;have z0:=qj_ Z 0;have z1:=qj_ Z 1;have z2:=qj_ Z 2;have zf0:=qd_ Z 0;have zf1:=qd_ Z 1;have zf2:=qd_ Z 2;clear Z)|skip;clear h6 ho9 hv9 hb))
              all_goals
                go_wp2_with fail
                go_meet
                case rel =>
                  refine ⟨_,D9,N9,A9,c9,l9,ok9,rfl,rfl,⟨?_⟩,⟨?_⟩,HO9,⟨?_⟩⟩
                  · (repeat' (first|((with_reducible refine SrAt.new ?_);simp;done)|(with_reducible refine SrAt.put3 ?_ _ _ _)|(with_reducible exact HZZ.out)|(with_reducible refine SrAt.alloc ?_ _)|(with_reducible refine SrAt.drew ?_)|(with_reducible refine drewN_at ?_)|(with_reducible refine drew_at ?_)|((with_reducible refine new_at ?_);simp;done)|(with_reducible refine old_at ?_)))
                  · (repeat' (first|(with_reducible exact HV9.out)|(with_reducible exact Kd.qc1_ HV9.out _)|(with_reducible refine Kd.qc1_ ?_ _)|(with_reducible refine Kd.R_drew ?_)|exact Kd.R_set (Kd.R_set (Kd.R_set HV9.out HZZ.out (by decide) 0 _) (qr_ HZZ.out 0 _) (by decide) 1 _) (qr_ (qr_ HZZ.out 0 _) 1 _) (by decide) 2 _))
                  · (repeat' (first|(with_reducible exact Below.refl _ _)|(with_reducible exact HB6.out)|(with_reducible refine Below.setCell ?_ ?_ _)|(with_reducible refine qc_ ?_)|(with_reducible refine qa_ ?_ _)|(with_reducible refine qb_ ?_ _)|(simp;done)|(simp;omega)|(have h6_:=HB6.out.size;simp;omega)))
            case rest =>
              obtain ⟨b9,D9,N9,A9,c9,l9,ok9,rfl,rfl,HS9,HV9,HO9,HM9⟩:=hcut
              have HB9:=Aside0.mk (qe_ HBW.out HM9.out)
              have HM3:=Aside0.mk (qe_ HB3.out HM9.out)
              clear p0 p1 p2 q0 q1 q2 u0 u1
              by_cases hsb:(sumT O (scaleT Pn z)).bad=true
              · have ho:=HO9.out
                rw [outT_bad hsb] at ho
                obtain ⟨rfl,rfl,rfl,rfl⟩:=ho
                have HRN:=Aside0.mk (HBad1.out (k+1) (by omega) (by rw [HN1.out];exact hsb))
                clear hsb
                have SR:=HSR.out.below HM3.out
                have x0:wc.cell? ⟨w.heap.size+1,0,none⟩=some (.int .i64 0):=SR.c0
                have f0:wc.frozen? ⟨w.heap.size+1,0,none⟩=false:=qd_ SR 0
                have x1:wc.cell? ⟨w.heap.size+1,1,none⟩=some (.int .i64 0):=SR.c1
                have f1:wc.frozen? ⟨w.heap.size+1,1,none⟩=false:=qd_ SR 1
                have x2:wc.cell? ⟨w.heap.size+1,2,none⟩=some (.slice none 0 0):=SR.c2
                have f2:wc.frozen? ⟨w.heap.size+1,2,none⟩=false:=qd_ SR 2
                have HSRX:=Aside0.mk SR
                clear SR
                go_wp2
                refine bodyPost_ret (results_ct rfl _ _ (w.heap.size+1) 38 _ (0,0) _ rfl (qr_ (qr_ (qr_ HSRX.out 0 _) 1 _) 2 _) hu2 rfl (by kernel_rfl)) rfl ?_
                rw [HRN.out]
                exact ⟨_,rfl,Kd.R_nil _ _ _ _ _,((HB9.out.setCell (Nat.le_add_right _ 1) _).setCell (Nat.le_add_right _ 1) _).setCell (Nat.le_add_right _ 1) _⟩
              · have hsg:(sumT O (scaleT Pn z)).bad=false:=by simpa using hsb
                have ho:=HO9.out
                rw [outT_good hsg] at ho
                obtain ⟨rfl,rfl,rfl,rfl⟩:=ho
                have HGN:=Aside0.mk hsg
                have y0:=HS9.out.c0
                have y1:=HS9.out.c1
                have y2:=HS9.out.c2
                have S7:=HS7.out.below HM3.out
                have k0:=S7.c0
                have k1:=S7.c1
                have k2:=S7.c2
                have kf0:=qd_ S7 0
                have kf1:=qd_ S7 1
                have kf2:=qd_ S7 2
                have HS79:=Aside0.mk S7
                have HS69:=Aside0.mk (HS6.out.below HM3.out)
                have HV69:=Aside0.mk (Kd.qe2_ HV6.out HM3.out)
                have HSX9:=Aside0.mk (HSX.out.below HM3.out)
                have HSR9:=Aside0.mk (HSR.out.below HM3.out)
                clear S7 hsb hsg
                go_wp2
                go_roundg (n+1 - (k+1))
                case measure=>omega
                case rel =>
                  have hne:=HNE.out
                  have hlo:=HW0.out
                  have h8:=HS.out.n8
                  refine ⟨k+1,A6,A9,c6,c9,by omega,by omega,by first|rfl|(rw [w64 (by omega) (by omega)];rfl),⟨?_⟩,⟨?_⟩,⟨?_⟩,⟨?_⟩,⟨?_⟩,⟨?_⟩,⟨?_⟩,⟨?_⟩⟩
                  · rw [HN1.out];exact ⟨HGN.out,HPB.out⟩
                  · rw [HN1.out];exact HS69.out.far3 hne.1 _ _ _
                  · rw [HN1.out];exact SrAt.box3 HS79.out
                  · rw [HN1.out];exact R_box3 HV69.out HS79.out _ _ _
                  · rw [HN1.out];exact R_box3 HV9.out HS79.out _ _ _
                  · exact HSX9.out.far3 (by omega) _ _ _
                  · exact HSR9.out.far3 (by omega) _ _ _
                  · exact qy2_ HB9.out (by omega) _ _ _
          · have hzf:z=zeroF:=by have:=HNK.out;rwa [if_neg hf] at this
            have HN1:=Aside0.mk (show powersS t (zeroT d n) first F (k+1)=(O,Pn) from by rw [HNX.out,if_neg hf])
            have HZ:=Aside0.mk (show ∀ W,Calls Try.prog 141 #[.agg #[.int .i64 z.f0,.int .i64 z.f1]] W fun e w'=>e=.returned (.bool true)∧Below W.heap.size W w' from fun W=>by have:=zeroS W z;rwa [show (z.f0 == 0)=true from by rw [hzf];rfl] at this)
            clear hf hzf
            go_wp2_with (go_at_call 141;refine (HZ.out _).mono ?_;rintro e w3 ⟨rfl,hb⟩;have HB3:=Aside0.mk hb;clear hb)
            go_roundg (n+1 - (k+1))
            case measure=>omega
            case rel =>
              have h8:=HS.out.n8
              refine ⟨k+1,A6,A7,c6,c7,by omega,by omega,by first|rfl|(rw [w64 (by omega) (by omega)];rfl),⟨?_⟩,⟨?_⟩,⟨?_⟩,⟨?_⟩,⟨?_⟩,⟨HSX.out.below HB3.out⟩,⟨HSR.out.below HB3.out⟩,⟨qe_ HB.out HB3.out⟩⟩
              · rw [HN1.out];exact ⟨HG.out.1,HPB.out⟩
              · rw [HN1.out];exact HS6.out.below HB3.out
              · rw [HN1.out];exact HS7.out.below HB3.out
              · rw [HN1.out];exact Kd.qe2_ HV6.out HB3.out
              · rw [HN1.out];exact Kd.qe2_ HV7.out HB3.out
      · have hltz:¬ (k:Int) < (nums.length:Int):=by rw [HLen.out];omega
        obtain rfl:k=n+1:=by omega
        have HRS:=Aside0.mk (show R=some (termsT O) from by
          have:=HEnd.out (by have h2:=HG.out.1;rw [HOE.out] at h2;exact h2)
          rw [this,HOE.out];rfl)
        have y0:=HS7.out.c0
        have y1:=HS7.out.c1
        have y2:=HS7.out.c2
        have SR:=HSR.out
        have x0:wr.cell? ⟨w.heap.size+1,0,none⟩=some (.int .i64 0):=SR.c0
        have f0:wr.frozen? ⟨w.heap.size+1,0,none⟩=false:=qd_ SR 0
        have x1:wr.cell? ⟨w.heap.size+1,1,none⟩=some (.int .i64 0):=SR.c1
        have f1:wr.frozen? ⟨w.heap.size+1,1,none⟩=false:=qd_ SR 1
        have x2:wr.cell? ⟨w.heap.size+1,2,none⟩=some (.slice none 0 0):=SR.c2
        have f2:wr.frozen? ⟨w.heap.size+1,2,none⟩=false:=qd_ SR 2
        have HSRX:=Aside0.mk SR
        clear SR
        go_wp2
        refine bodyPost_ret (results_ct rfl _ _ (w.heap.size+1) 38 _ (0,0) _ rfl (qr_ (qr_ (qr_ HSRX.out 0 _) 1 _) 2 _) hu2 rfl (by kernel_rfl)) rfl ?_
        rw [HRS.out]
        refine ⟨_,rfl,?_,((HB.out.setCell (Nat.le_add_right _ 1) _).setCell (Nat.le_add_right _ 1) _).setCell (Nat.le_add_right _ 1) _⟩
        exact R_box3 HV7.out HSRX.out _ _ _
end Go.Proofs.Ytaiefdhenikiiaa.Base
namespace Go.Proofs.Ytaiefdhenikiiaa.Base
open Go.RowKit Go.Proofs.YtaiefdhenikiiaaW.PrintWords Go.Proofs.YtaiefdhenikiiaaW.PrintLast Go.Proofs.YtaiefdhenikiiaaW.PrintMore
attribute [local go_sem] max2_int max_two
set_option linter.unusedVariables false
set_option linter.unusedSimpArgs false
abbrev FracsR (W:World) (base:Nat) (v:Value) (l:List S77):Prop:=Kd.R k77 77 W base (fun _=>True) v l
def expL (i:Nat):List S77:=(List.range i).map expF
theorem expL_succ (i:Nat):expL (i+1)=expL i ++ [expF i]:=by unfold expL;rw [List.range_succ,List.map_append];rfl
theorem expL_len (i:Nat):(expL i).length=i:=by unfold expL;simp
theorem expL_at (m k:Nat) (h:k < (expL m).length):(expL m)[k]=expF k:=by simp only [expL,List.getElem_map,List.getElem_range]
def facB (i:Nat):Nat:=if i=0 then 1 else factN (i - 1)
set_option maxHeartbeats 32000000 in
set_option maxRecDepth 100000 in
theorem expSp (w:World) (d n:Nat) (hs:Sz d n) {t:Tb} (ht:Like t (zeroT d n)) (hbt:t.bad=false) {A:Option Addr} {ca:Nat} (hA:TmsC w A ca (termsT t)) :
    Calls Try.prog 102 #[.agg #[.int .i64 (d:Int),.int .i64 (n:Int),.slice A (termsT t).length ca]] w (OutR w d n (outT (expT t (zeroT d n)))):=by
  have hu2:=Try.underlying38
  have hu3:=Try.underlying77
  have HSM:=Aside0.mk (show ∀ W B cb,TmsC W A ca (termsT t)→Kd.C k77 W B (expL (n+1)).length (expL (n+1))→Calls Try.prog 169 #[.agg #[.int .i64 (d:Int),.int .i64 (n:Int),.slice A (termsT t).length ca],.slice B (expL (n+1)).length cb] W (OutR W d n (outT (expT t (zeroT d n)))) from fun W B cb h1 h2=>by
    refine sumSp W d n hs ht hbt h1 h2 0 expF (Nat.zero_le _) (expL_len _) (fun k h=>?_) (fun k hk _=>⟨expF_ok k (by have:=hs.n8;omega),by show (1:Int) ≠ 0;decide⟩)
    rw [if_pos (Nat.zero_le _)];exact expL_at _ _ h)
  have H8:=Aside0.mk hs.n8
  generalize outT (expT t (zeroT d n))=R at HSM ⊢
  generalize termsT t=lt at hA HSM ⊢
  have HA:=Aside0.mk hA
  clear hA hs ht hbt
  go_enter Try.func102,Try.ntmps102
  go_wp2_with ((with_reducible refine qf1_ (N:=9) rfl ?_);refine Kd.R_lit k77 _ 77 ?hg (N:=9) ?hd (xs:=([]:List S77)) (inner:=[]) (ok:=fun _=>True) (okp:=fun _=>True) ?hr ?hp (fun _ hk=>hk) trivial (Below.refl _ _) (Nat.le_refl _) (by simp) ?_;(case hd=>rfl);(case hg=>rfl);(case hr=>first|(go_simp;done)|(go_simp;rfl));(case hp=>exact (Reps.none _ _));intro v3 w3 ho hb hg hnew;clear hg hnew;have HX3:=Aside0.mk (show SrAt w3 w.heap.size d n (.slice A lt.length ca) from ql_ (old_at (new_at rfl)) hb);have HR3:=Aside0.mk (show SrAt w3 (w.heap.size+1) 0 0 (.slice none 0 0) from ql_ (new_at (by simp)) hb);have HB3:=Aside0.mk (show Below w.heap.size w w3 from qe_ (qb_ (qb_ (Below.refl _ _) _) _) hb);have HV3:=Aside0.mk (show FracsR w3 w.heap.size v3 [] from Kd.qi2_ ho (qk_ (qb_ (qb_ (Below.refl w.heap.size w) _) _)));clear ho hb)
  go_loopg [4,5,6] (n+1) (fun gg v4 v5 v6 wr=>∃ (i:Nat) (vs:Value),i≤n+1∧n+1 - i≤gg∧v4=vs∧v5=.int .i64 (facB i:Int)∧v6=.int .i64 i∧Aside0 (FracsR wr w.heap.size vs (expL i))∧Aside0 (SrAt wr w.heap.size d n (.slice A lt.length ca))∧Aside0 (SrAt wr (w.heap.size+1) 0 0 (.slice none 0 0))∧Aside0 (Below w.heap.size w wr))
  case atStart=>exact ⟨0,_,Nat.zero_le _,by omega,rfl,rfl,rfl,HV3,HX3,HR3,HB3⟩
  case round =>
    clear HV3 HX3 HR3 HB3
    obtain ⟨i,vs,hi,hg,he4,rfl,rfl,HV,HX,HR,HB⟩:=hrel
    have he4':=he4.symm
    subst he4'
    have z1:=HX.out.c1
    by_cases hlt:i≤n
    · have hltz:(i:Int)≤(n:Int):=by omega
      have h8:i≤8:=by have:=H8.out;omega
      obtain ⟨f,hf⟩:∃ f:Int,f=(facB i:Int):=⟨_,rfl⟩
      obtain ⟨g,hgf⟩:∃ g:Int,g=(factN i:Int):=⟨_,rfl⟩
      have hmul:wrap64 (f * (if (i:Int) < 1 then 1 else (i:Int)))=g:=by
        have hfl:=factN_le i h8
        have e:(facB i:Int) * (if (i:Int) < 1 then 1 else (i:Int))=(factN i:Int):=by
          cases i with
          | zero=>rfl
          | succ j =>
            rw [if_neg (by omega)]
            show ((factN j:Nat):Int) * (((j+1:Nat)):Int)=((factN j * (j+1):Nat):Int)
            rw [Int.natCast_mul]
        rw [hf,hgf,e,w64 (by omega) (by omega)]
      have hmul2:IntKind.i64.wrap (f * (if (i:Int) < 1 then 1 else (i:Int)))=g:=by rw [i64_w];exact hmul
      have HGE:=Aside0.mk (show (⟨1,g⟩:S77)=expF i from by rw [hgf];rfl)
      have HFB:=Aside0.mk (show g=(facB (i+1):Int) from by rw [hgf];unfold facB;rw [if_neg (by omega)];rfl)
      rw [← hf]
      clear hf hgf
      go_wp2_with ((with_reducible refine qg2_ (b:=.append) (xs:=#[.tmp 20,.tmp 23]) rfl ?_);at_builtin;refine Kd.R_append k77 (w0:=w) w.heap.size rfl (.tmp 20) (.tmp 23) 124 77 (.agg #[(.int .i64 0),(.int .i64 0)]) 16 rfl Try.underlying124 info77 rfl (by decide) (by omega) vs (expL i) ⟨1,g⟩ [.int .i64 1,.int .i64 g] (fun _=>True) (fun _=>False) rfl rfl ?aP (fun _ hk=>hk.elim) ?aF ?aO ?aB ?aS ?aL ?_;(case aP=>exact k77_mkM _ _ _ ⟨1,g⟩);(case aB=>exact HB.out);(case aF=>exact (fun _ _=>trivial));(case aO=>exact HV.out);(case aS=>exact (qk_ HB.out));(case aL=>have:=H8.out;rw [expL_len];omega);intro v7 w7 ho hb hg hat;have HX7:=Aside0.mk (HX.out.grown hg (Kd.R_ne HV.out HX.out (by decide)));have HR7:=Aside0.mk (HR.out.grown hg (Kd.R_ne HV.out HR.out (by decide)));have HB7:=Aside0.mk hb;have HV7:=Aside0.mk ho;clear ho hb hg hat)
      all_goals
        go_roundg (n+1 - (i+1))
        case measure=>omega
        case rel =>
          refine ⟨i+1,_,by omega,by omega,rfl,by rw [HFB.out],by have:=H8.out;first|rfl|(rw [w64 (by omega) (by omega)];rfl),⟨?_⟩,HX7,HR7,HB7⟩
          rw [expL_succ,← HGE.out];exact HV7.out
    · have hltz:¬ (i:Int)≤(n:Int):=by omega
      obtain rfl:i=n+1:=by omega
      obtain ⟨Av,cv,rfl⟩:=Kd.qa2_ HV.out
      have p0:=HX.out.c0
      have p2:=HX.out.c2
      have HRC:=Aside0.mk (Kd.qa3_ HV.out).2.2
      have HAW:=Aside0.mk (HA.out.below HB.out)
      go_wp2_with (go_at_call 169;refine (HSM.out _ _ _ HAW.out HRC.out).mono ?_;rintro e w8 h8;obtain ⟨D,N,Ax,cx,lr,ok,rfl,ho,hv,hb⟩:=h8.val;have HOX:=Aside0.mk ho;have HVX:=Aside0.mk (show TermsR w8 w.heap.size (.slice Ax lr.length cx) lr from Kd.qi2_ hv HB.out.size);have HBX:=Aside0.mk (qe_ HB.out hb);have SR:=HR.out.below hb;have x0:(w8.alloc (.cells #[.int .i64 D,.int .i64 N,.slice Ax lr.length cx] 38)).cell? ⟨w.heap.size+1,0,none⟩=some (.int .i64 0):=(SrAt.alloc SR _).c0;have f0:(w8.alloc (.cells #[.int .i64 D,.int .i64 N,.slice Ax lr.length cx] 38)).frozen? ⟨w.heap.size+1,0,none⟩=false:=qd_ (SrAt.alloc SR (.cells #[.int .i64 D,.int .i64 N,.slice Ax lr.length cx] 38)) 0;have x1:(w8.alloc (.cells #[.int .i64 D,.int .i64 N,.slice Ax lr.length cx] 38)).cell? ⟨w.heap.size+1,1,none⟩=some (.int .i64 0):=(SrAt.alloc SR _).c1;have f1:(w8.alloc (.cells #[.int .i64 D,.int .i64 N,.slice Ax lr.length cx] 38)).frozen? ⟨w.heap.size+1,1,none⟩=false:=qd_ (SrAt.alloc SR (.cells #[.int .i64 D,.int .i64 N,.slice Ax lr.length cx] 38)) 1;have x2:(w8.alloc (.cells #[.int .i64 D,.int .i64 N,.slice Ax lr.length cx] 38)).cell? ⟨w.heap.size+1,2,none⟩=some (.slice none 0 0):=(SrAt.alloc SR _).c2;have f2:(w8.alloc (.cells #[.int .i64 D,.int .i64 N,.slice Ax lr.length cx] 38)).frozen? ⟨w.heap.size+1,2,none⟩=false:=qd_ (SrAt.alloc SR (.cells #[.int .i64 D,.int .i64 N,.slice Ax lr.length cx] 38)) 2;have HSRX:=Aside0.mk SR;clear SR h8 ho hv hb)
      refine bodyPost_ret (results_ct rfl _ _ (w.heap.size+1) 38 _ (0,0) _ rfl (qr_ (qr_ (qr_ (HSRX.out.alloc _) 0 _) 1 _) 2 _) hu2 rfl (by kernel_rfl)) rfl ?_
      refine OutR.of HOX.out ?_ (((qb_ HBX.out _).setCell (Nat.le_add_right _ 1) _).setCell (Nat.le_add_right _ 1) _ |>.setCell (Nat.le_add_right _ 1) _)
      exact R_box3 (Kd.qc1_ HVX.out _) (HSRX.out.alloc _) _ _ _
end Go.Proofs.Ytaiefdhenikiiaa.Base
namespace Go.Proofs.Ytaiefdhenikiiaa.Base
open Go.RowKit Go.Proofs.YtaiefdhenikiiaaW.PrintWords Go.Proofs.YtaiefdhenikiiaaW.PrintLast Go.Proofs.YtaiefdhenikiiaaW.PrintMore
set_option linter.unusedVariables false
set_option linter.unusedSimpArgs false
/-- The exponential of a step. -/
theorem stepExp (d n:Nat) (hs:Sz d n) (hn:1≤n) (row:List Int) (ho:okRow row):∀ W A c,TmsC W A c (termsT (stepT d n row))→Calls Try.prog 102 #[.agg #[.int .i64 (d:Int),.int .i64 (n:Int),.slice A (termsT (stepT d n row)).length c]] W (OutR W d n (outT (stepSigT d n row))):=fun W A c h=>expSp W d n hs (stepT_like hs ho) (stepN_good d n row row.length) h
end Go.Proofs.Ytaiefdhenikiiaa.Base
namespace Go.Proofs.Ytaiefdhenikiiaa.Base
open Go.RowKit Go.Proofs.YtaiefdhenikiiaaW.PrintWords Go.Proofs.YtaiefdhenikiiaaW.PrintLast Go.Proofs.YtaiefdhenikiiaaW.PrintMore
set_option linter.unusedVariables false
set_option linter.unusedSimpArgs false
theorem times_one {a:S77} (h:okF a):timesM a oneF=(a,true):=by
  have e1:a.f0 * oneF.f0=a.f0:=Int.mul_one _
  have e2:a.f1 * oneF.f1=a.f1:=Int.mul_one _
  have hb:byM a.f0 a.f1=1:=by unfold byM;rw [if_neg (by have:=h.1;omega),h.2.2.2.2];rfl
  unfold timesM redM
  rw [e1,e2,hb,Int.ediv_one,Int.ediv_one]
  show (a,decide (okF a))=(a,true)
  rw [decide_eq_true h]
theorem tab_same {t u:Tb} {d n:Nat} (ht:Like t (zeroT d n)) (hu:Like u (zeroT d n)) (hs:Sz d n) (hb:u.bad=t.bad) (hv:∀ i,i < t.vs.length→u.vs.getD i zeroF=t.vs.getD i zeroF):u=t :=
  Tb.ext' (hu.1.trans ht.1.symm) (hu.2.1.trans ht.2.1.symm) hb (by rw [hu.len (zeroT_ok hs),ht.len (zeroT_ok hs)]) (fun i hi=>hv i (by rw [ht.len (zeroT_ok hs),← hu.len (zeroT_ok hs)];exact hi))
theorem scale_one {t:Tb} {d n:Nat} (ht:Like t (zeroT d n)) (hs:Sz d n) (hb:t.bad=false):scaleT t oneF=t:=by
  have hp:∀ i,(scaleP t oneF i).2=true:=fun i=>by show (timesM (t.vs.getD i zeroF) oneF).2=true;rw [times_one (okF_at ht.2.2 i)]
  refine tab_same ht (scaleT_like oneF ht) hs ?_ (fun i hi=>?_)
  · unfold scaleT
    rw [fill_bad,hb]
    simp [hp,badT]
  · rw [scale_vals ht.2.2 oneF i hi,times_one (okF_at ht.2.2 i)];rfl
theorem sum_zero {t:Tb} {d n:Nat} (ht:Like t (zeroT d n)) (hs:Sz d n) (hb:t.bad=false):sumT (zeroT d n) t=t:=by
  have hz:∀ i,(zeroT d n).vs.getD i zeroF=zeroF:=zero_getD d n
  have hq:∀ i,sumP (zeroT d n) t i=(t.vs.getD i zeroF,true):=fun i=>by show plusM ((zeroT d n).vs.getD i zeroF) (t.vs.getD i zeroF)=_;rw [hz,plus_zero (okF_at ht.2.2 i)]
  have hp:∀ i,(sumP (zeroT d n) t i).2=true:=fun i=>by rw [hq]
  refine tab_same ht (sumT_like ⟨rfl,rfl,zeroT_ok hs⟩) hs ?_ (fun i hi=>?_)
  · unfold sumT
    rw [fill_bad,hb]
    simp [hp,badT,zeroT]
    exact fun x _=>hp x
  · unfold sumT
    rw [fill_vals _ _ _ (show (zeroT d n).vs.length≤(badT (zeroT d n).d (zeroT d n).n ((zeroT d n).bad || t.bad)).vs.length from Nat.le_refl _) i,if_pos (by rw [← ht.len (zeroT_ok hs)];exact hi),hq];rfl
end Go.Proofs.Ytaiefdhenikiiaa.Base
