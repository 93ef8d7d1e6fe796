/- Texts that the proof of FnExactMeanSignature needs, part 5. No condition. -/
import Derived.Test.YtaiefdhenikiiaaMFnExactMeanSignature4
import Derived.Lib.Walk
import Derived.Shelf.Abstract
namespace Go.Proofs.YtaiefdhenikiiaaC
open Go.RowKit Go.Proofs.YtaiefdhenikiiaaW.PrintWords Go.Proofs.YtaiefdhenikiiaaW.PrintLast Go.Proofs.YtaiefdhenikiiaaW.PrintMore
set_option linter.unusedVariables false
set_option linter.unusedSimpArgs false
/-- Does p hold below n. -/
def anyN (p:Nat→Bool) (n:Nat):Bool:=(List.range n).any p
theorem anyN_hit {p:Nat→Bool} {n k:Nat} (hk:k < n) (h:p k=true):anyN p n=true:=by
  unfold anyN;rw [List.any_eq_true];exact ⟨k,List.mem_range.2 hk,h⟩
theorem anyN_miss {p:Nat→Bool} {n:Nat} (h:∀ j,j < n→p j=false):anyN p n=false:=by
  unfold anyN;rw [List.any_eq_false];intro x hx;rw [h x (List.mem_range.1 hx)];simp
/-- What a function value answers at element j,in whatever world over w;what lay,lies. -/
def Test (g:Nat) (lb:Array Value) (v:Nat→Value) (p:Nat→Bool) (n:Nat) (w:World):Prop :=
  ∀ j,j < n→∀ W,Below w.heap.size w W→Calls Try.prog g (#[v j] ++ lb) W fun e w'=>e=.returned (.bool (p j))∧Below W.heap.size W w'
def Told (p:Nat→Bool) (n:Nat) (w:World) (e:Ending) (w':World):Prop:=∃ r:Int,e=.returned (.int .i64 r)∧decide (0≤r)=anyN p n∧Below w.heap.size w w'
set_option maxHeartbeats 2000000 in
theorem index_ints (g:Nat) (lb:Array Value) (v:Nat→Value) (p:Nat→Bool) (A:Option Addr) (n c:Nat) (w:World) (eg:∀ args w,(callFunc g args).run Try.prog w=.ok (.enter g args) w)
    (hn:n≤9223372036854775807) (hA:0 < n→∃ ad,A=some ad∧∀ j,j < n→w.cell? (ad.add j)=some (v j)) (ht:Test g lb v p n w) :
    Calls Try.prog 224 #[.slice A n c,.func (.func g) #[] lb] w (Told p n w):=by
  have HA:=Aside0.mk hA
  have HT:=Aside0.mk ht
  clear hA ht
  go_enter Try.func224,Try.ntmps224
  go_wp2
  go_loopg [5,8] n (fun gg _ s8 wr=>∃ kk:Nat,kk≤n∧n - kk≤gg∧s8=.int .i64 kk∧Aside0 (Below w.heap.size w wr)∧Aside0 (∀ j,j < kk→p j=false))
  case atStart=>exact ⟨0,Nat.zero_le _,by omega,rfl,⟨Below.refl _ _⟩,⟨fun j hj=>absurd hj (Nat.not_lt_zero _)⟩⟩
  case round =>
    obtain ⟨kk,hkk,hg,rfl,HB,HP⟩:=hrel
    by_cases hlt:kk < n
    · have hltz:(kk:Int) < (n:Int):=by omega
      obtain ⟨ad,rfl,hc⟩:=HA.out (by omega)
      have hcell:=(HB.out.cell (World.block_lt_of_cell? w _ (hc kk hlt))).trans (hc kk hlt)
      clear hc
      have hcall:=HT.out kk hlt _ HB.out
      generalize hv:v kk=y at hcell hcall
      clear hv
      cases hq:p kk with
      | true =>
        rw [hq] at hcall
        have HQ:=Aside0.mk hq
        clear hq
        go_wp2_with (go_at_fn g;refine hcall.mono ?_;rintro e w' ⟨rfl,hb⟩;have HB2:=Aside0.mk (qj3_ HB.out HB.out.size hb);clear hb)
        go_ret
        refine ⟨kk,rfl,?_,HB2.out⟩
        rw [anyN_hit hlt HQ.out];simp
      | false =>
        rw [hq] at hcall
        have HQ:=Aside0.mk hq
        clear hq
        go_wp2_with (go_at_fn g;refine hcall.mono ?_;rintro e w' ⟨rfl,hb⟩;have HB2:=Aside0.mk (qj3_ HB.out HB.out.size hb);clear hb)
        go_roundg (n - (kk+1))
        case measure=>omega
        case rel =>
          refine ⟨kk+1,by omega,by omega,by go_num,HB2,⟨fun j hj=>?_⟩⟩
          by_cases e:j=kk
          · subst e;exact HQ.out
          · exact HP.out j (by omega)
    · have hltz:¬ (kk:Int) < (n:Int):=by omega
      have:kk=n:=by omega
      subst this
      go_wp2
      go_ret
      refine ⟨-1,rfl,?_,HB.out⟩
      rw [anyN_miss HP.out];simp
set_option maxHeartbeats 1000000 in
theorem contains_ints (g:Nat) (lb:Array Value) (v:Nat→Value) (p:Nat→Bool) (A:Option Addr) (n c:Nat) (w:World) (eg:∀ args w,(callFunc g args).run Try.prog w=.ok (.enter g args) w)
    (hn:n≤9223372036854775807) (hA:0 < n→∃ ad,A=some ad∧∀ j,j < n→w.cell? (ad.add j)=some (v j)) (ht:Test g lb v p n w) :
    Calls Try.prog 212 #[.slice A n c,.func (.func g) #[] lb] w fun e w'=>e=.returned (.bool (anyN p n))∧Below w.heap.size w w':=by
  have hi:=index_ints g lb v p A n c w eg hn hA ht
  clear hA ht
  go_enter Try.func212,Try.ntmps212
  go_wp2_with (go_at_call 224;refine hi.mono ?_;rintro e w' ⟨r,rfl,hr,hb⟩)
  go_ret
  exact ⟨by rw [← hr];rfl,hb⟩
set_option maxHeartbeats 2000000 in
theorem index_rows (g:Nat) (lb:Array Value) (v:Nat→Value) (p:Nat→Bool) (A:Option Addr) (n c:Nat) (w:World) (eg:∀ args w,(callFunc g args).run Try.prog w=.ok (.enter g args) w)
    (hn:n≤9223372036854775807) (hA:0 < n→∃ ad,A=some ad∧∀ j,j < n→w.cell? (ad.add j)=some (v j)) (ht:Test g lb v p n w) :
    Calls Try.prog 211 #[.slice A n c,.func (.func g) #[] lb] w (Told p n w):=by
  have HA:=Aside0.mk hA
  have HT:=Aside0.mk ht
  clear hA ht
  go_enter Try.func211,Try.ntmps211
  go_wp2
  go_loopg [5,8] n (fun gg _ s8 wr=>∃ kk:Nat,kk≤n∧n - kk≤gg∧s8=.int .i64 kk∧Aside0 (Below w.heap.size w wr)∧Aside0 (∀ j,j < kk→p j=false))
  case atStart=>exact ⟨0,Nat.zero_le _,by omega,rfl,⟨Below.refl _ _⟩,⟨fun j hj=>absurd hj (Nat.not_lt_zero _)⟩⟩
  case round =>
    obtain ⟨kk,hkk,hg,rfl,HB,HP⟩:=hrel
    by_cases hlt:kk < n
    · have hltz:(kk:Int) < (n:Int):=by omega
      obtain ⟨ad,rfl,hc⟩:=HA.out (by omega)
      have hcell:=(HB.out.cell (World.block_lt_of_cell? w _ (hc kk hlt))).trans (hc kk hlt)
      clear hc
      have hcall:=HT.out kk hlt _ HB.out
      generalize hv:v kk=y at hcell hcall
      clear hv
      cases hq:p kk with
      | true =>
        rw [hq] at hcall
        have HQ:=Aside0.mk hq
        clear hq
        go_wp2_with (go_at_fn g;refine hcall.mono ?_;rintro e w' ⟨rfl,hb⟩;have HB2:=Aside0.mk (qj3_ HB.out HB.out.size hb);clear hb)
        go_ret
        refine ⟨kk,rfl,?_,HB2.out⟩
        rw [anyN_hit hlt HQ.out];simp
      | false =>
        rw [hq] at hcall
        have HQ:=Aside0.mk hq
        clear hq
        go_wp2_with (go_at_fn g;refine hcall.mono ?_;rintro e w' ⟨rfl,hb⟩;have HB2:=Aside0.mk (qj3_ HB.out HB.out.size hb);clear hb)
        go_roundg (n - (kk+1))
        case measure=>omega
        case rel =>
          refine ⟨kk+1,by omega,by omega,by go_num,HB2,⟨fun j hj=>?_⟩⟩
          by_cases e:j=kk
          · subst e;exact HQ.out
          · exact HP.out j (by omega)
    · have hltz:¬ (kk:Int) < (n:Int):=by omega
      have:kk=n:=by omega
      subst this
      go_wp2
      go_ret
      refine ⟨-1,rfl,?_,HB.out⟩
      rw [anyN_miss HP.out];simp
set_option maxHeartbeats 1000000 in
theorem contains_rows (g:Nat) (lb:Array Value) (v:Nat→Value) (p:Nat→Bool) (A:Option Addr) (n c:Nat) (w:World) (eg:∀ args w,(callFunc g args).run Try.prog w=.ok (.enter g args) w)
    (hn:n≤9223372036854775807) (hA:0 < n→∃ ad,A=some ad∧∀ j,j < n→w.cell? (ad.add j)=some (v j)) (ht:Test g lb v p n w) :
    Calls Try.prog 171 #[.slice A n c,.func (.func g) #[] lb] w fun e w'=>e=.returned (.bool (anyN p n))∧Below w.heap.size w w':=by
  have hi:=index_rows g lb v p A n c w eg hn hA ht
  clear hA ht
  go_enter Try.func171,Try.ntmps171
  go_wp2_with (go_at_call 211;refine hi.mono ?_;rintro e w' ⟨r,rfl,hr,hb⟩)
  go_ret
  exact ⟨by rw [← hr];rfl,hb⟩
/-- impl.upTo. -/
theorem upTo_any (x m:Int) (w:World):Calls Try.prog 214 #[.int .i64 x,.int .i64 m] w fun e w'=>e=.returned (.bool (decide (wrap64 (-m)≤x) && decide (x≤m)))∧∃ q,w'=w.drewN q:=by
  have hw:∀ (a b c:Int) (W:World),Calls Try.prog 111 #[.int .i64 a,.int .i64 b,.int .i64 c] W fun e w'=>e=.returned (.bool (decide (b≤a) && decide (a≤c)))∧w'=W:=by
    intro a b c W
    by_cases h:b≤a
    · have h1:decide (b≤a)=true:=decide_eq_true h
      clear h
      go_enter Try.func111,Try.ntmps111
      go_wp2
      go_ret
      exact ⟨by rw [h1];simp,rfl⟩
    · have h1:decide (b≤a)=false:=decide_eq_false h
      clear h
      go_enter Try.func111,Try.ntmps111
      go_wp2
      go_ret
      exact ⟨by rw [h1];simp,rfl⟩
  go_enter Try.func214,Try.ntmps214
  go_wp2_with (go_at_call 111;refine (hw _ _ _ _).mono ?_;rintro e w' ⟨rfl,rfl⟩)
  go_ret
  exact ⟨rfl,0,rfl⟩
/-- The function value in impl.allUpTo. -/
theorem upTo_test (m:Int) (B:Nat) (W:World) (hc:W.cell? ⟨B,0,none⟩=some (.int .i64 m)) (xs:List Int) (n:Nat):Test 213 #[.pointer (some ⟨B,0,none⟩)] (fun j=>.int .i64 (xs.getD j 0)) (fun j=>!(decide (wrap64 (-m)≤xs.getD j 0) && decide (xs.getD j 0≤m))) n W:=by
  intro j _ Wx hWx
  have hc':Wx.cell? ⟨B,0,none⟩=some (.int .i64 m):=(hWx.cell (World.block_lt_of_cell? W _ hc)).trans hc
  clear hWx hc
  suffices h:∀ x:Int,Calls Try.prog 213 #[.int .i64 x,.pointer (some ⟨B,0,none⟩)] Wx fun e w'=>e=.returned (.bool (!(decide (wrap64 (-m)≤x) && decide (x≤m))))∧Below Wx.heap.size Wx w' from h _
  intro x
  go_enter Try.func213,Try.ntmps213
  go_wp2_with (go_at_call 214;refine (upTo_any _ _ _).mono ?_;rintro e w' ⟨rfl,q',rfl⟩)
  go_ret
  exact ⟨by simp,qa_ (Below.refl _ _) _⟩
def allUpTo (l:List Int) (m:Int):Bool:=l.all fun x=>decide (wrap64 (-m)≤x) && decide (x≤m)
theorem anyN_all (l:List Int) (p:Int→Bool):(!anyN (fun j=>!p (l.getD j 0)) l.length)=l.all p:=by
  cases h:l.all p with
  | true =>
    rw [List.all_eq_true] at h
    rw [anyN_miss (fun j hj=>?_)];rfl
    rw [List.getD_eq_getElem?_getD,List.getElem?_eq_getElem hj]
    simp only [Option.getD_some]
    rw [h _ (List.getElem_mem hj)];rfl
  | false =>
    rw [List.all_eq_false] at h
    obtain ⟨x,hx,hp⟩:=h
    obtain ⟨j,hj,rfl⟩:=List.mem_iff_getElem.1 hx
    rw [anyN_hit hj (by rw [List.getD_eq_getElem?_getD,List.getElem?_eq_getElem hj];simpa using hp)];rfl
set_option maxHeartbeats 1000000 in
/-- impl.allUpTo. -/
theorem allUpTo_any (A0:Option Addr) (c0:Nat) (l0:List Int) (m:Int) (w:World) (hr0:Kd.C (Kd.int .i64) w A0 l0.length l0) :
    Calls Try.prog 173 #[.slice A0 l0.length c0,.int .i64 m] w fun e w'=>e=.returned (.bool (allUpTo l0 m))∧Below w.heap.size w w':=by
  have hR:=Kd.reads_of_C (d:=(0:Int)) (h1:=fun _=>rfl) (enc:=Value.int .i64) hr0
  have eg:∀ args w,(callFunc 213 args).run Try.prog w=.ok (.enter 213 args) w:=enters_of Try.func213 (by kernel_rfl) rfl
  have hcon:=contains_ints 213 #[.pointer (some ⟨w.heap.size,0,none⟩)] (fun j=>.int .i64 (l0.getD j 0)) (fun j=>!(decide (wrap64 (-m)≤l0.getD j 0) && decide (l0.getD j 0≤m))) A0 l0.length c0 (w.alloc (.cells #[.int .i64 m] 2)) eg hR.2.1
    (fun hp=>by
      obtain ⟨ad,e,hc⟩:=hR.2.2 hp
      exact ⟨ad,e,fun j hj=>(World.cell?_alloc_lt _ _ _ (World.block_lt_of_cell? _ _ (hc j hj))).trans (hc j hj)⟩)
    (upTo_test m w.heap.size _ (by simp) l0 l0.length)
  have hz:(!anyN (fun j=>!(decide (wrap64 (-m)≤l0.getD j 0) && decide (l0.getD j 0≤m))) l0.length)=allUpTo l0 m:=anyN_all l0 (fun x=>decide (wrap64 (-m)≤x) && decide (x≤m))
  have HZ:=Aside0.mk hz
  clear hz hR hr0
  generalize anyN (fun j=>!(decide (wrap64 (-m)≤l0.getD j 0) && decide (l0.getD j 0≤m))) l0.length=b at hcon HZ
  go_enter Try.func173,Try.ntmps173
  go_wp2_with (go_at_call 212;refine hcon.mono ?_;rintro e w' ⟨rfl,hb⟩;have HB:=Aside0.mk hb;clear hb)
  go_ret
  exact ⟨by rw [← HZ.out];rfl,qj3_ (qb_ (Below.refl _ _) _) (by simp) HB.out⟩
/-- Are these numbers of letters? -/
def letters (d:Int):Bool:=decide (1≤d) && decide (d≤3)
theorem letters_any (d:Int) (w:World):Calls Try.prog 163 #[.int .i64 d] w fun e w'=>e=.returned (.bool (letters d))∧w'=w:=by
  have hw:∀ (a b c:Int) (W:World),Calls Try.prog 111 #[.int .i64 a,.int .i64 b,.int .i64 c] W fun e w'=>e=.returned (.bool (decide (b≤a) && decide (a≤c)))∧w'=W:=by
    intro a b c W
    by_cases h:b≤a
    · have h1:decide (b≤a)=true:=decide_eq_true h
      clear h
      go_enter Try.func111,Try.ntmps111
      go_wp2
      go_ret
      exact ⟨by rw [h1];simp,rfl⟩
    · have h1:decide (b≤a)=false:=decide_eq_false h
      clear h
      go_enter Try.func111,Try.ntmps111
      go_wp2
      go_ret
      exact ⟨by rw [h1];simp,rfl⟩
  go_enter Try.func163,Try.ntmps163
  go_wp2_with (go_at_call 111;refine (hw _ _ _ _).mono ?_;rintro e w' ⟨rfl,rfl⟩)
  go_ret
  exact ⟨rfl,rfl⟩
/-- A row of rows that came in: the cell at j. -/
theorem row_at {w:World} {A:Option Addr} {n:Nat} {xs:List (List Int)} (h:Kd.C (Kd.slice 2 (Kd.int .i64)) w A n xs) (j:Nat) (h1:j < n):∃ ad A0 c0,A=some ad∧w.cell? (ad.add j)=some (.slice A0 (xs.getD j []).length c0)∧(xs.getD j []).length≤c0∧(Kd.int .i64).C w A0 (xs.getD j []).length (xs.getD j []):=by
  obtain ⟨ad,c,e,_,hK,hc0⟩:=Kd.C_get h ([]:List Int) (j:Int) (by omega) (by omega)
  have hc:∀ i u,c[i]?=some u→w.cell? (ad.add ((j:Int).toNat * 1+i))=some u:=hc0
  obtain ⟨A0,c0,rfl,l0,g0⟩:=hK
  exact ⟨ad,A0,c0,e,by have hq:=hc 0 _ rfl;rwa [Nat.mul_one,Nat.add_zero,Int.toNat_natCast] at hq,l0,g0⟩
def cellOf (w:World) (A:Option Addr) (j:Nat):Value:=match A with|some ad=>(w.cell? (ad.add j)).getD undef|none=>undef
def rowOk (e m:Int) (row:List Int):Bool:=decide ((row.length:Int)=e) && allUpTo row m
/-- The function value in impl.IsMap,impl.IsPath. -/
theorem row_test (g:Nat) (m:Int) (e:Int) (B:Nat) (w W:World) (hc:W.cell? ⟨B,0,none⟩=some (.int .i64 e)) (A:Option Addr) (n:Nat) (xs:List (List Int)) (hb:Below w.heap.size w W)
    (h:Kd.C (Kd.slice 2 (Kd.int .i64)) w A n xs)
    (hg:∀ (A0:Option Addr) (c0:Nat) (row:List Int) (V:World),V.cell? ⟨B,0,none⟩=some (.int .i64 e)→Kd.C (Kd.int .i64) V A0 row.length row→Calls Try.prog g #[.slice A0 row.length c0,.pointer (some ⟨B,0,none⟩)] V fun e' w'=>e'=.returned (.bool (!rowOk e m row))∧Below V.heap.size V w') :
    Test g #[.pointer (some ⟨B,0,none⟩)] (cellOf w A) (fun j=>!rowOk e m (xs.getD j [])) n W:=by
  intro j hj V hV
  obtain ⟨ad,A0,c0,rfl,hx,_,hK⟩:=row_at h j hj
  have hv:cellOf w (some ad) j=.slice A0 (xs.getD j []).length c0:=by simp [cellOf,hx]
  rw [hv]
  exact hg A0 c0 _ V ((hV.cell (World.block_lt_of_cell? W _ hc)).trans hc) (Kd.qw1_ (Kd.qw1_ hK hb) hV)
theorem any_rows (l:List (List Int)) (p:List Int→Bool):(!anyN (fun j=>!p (l.getD j [])) l.length)=l.all p:=by
  cases h:l.all p with
  | true =>
    rw [List.all_eq_true] at h
    rw [anyN_miss (fun j hj=>?_)];rfl
    rw [List.getD_eq_getElem?_getD,List.getElem?_eq_getElem hj]
    simp only [Option.getD_some]
    rw [h _ (List.getElem_mem hj)];rfl
  | false =>
    rw [List.all_eq_false] at h
    obtain ⟨x,hx,hp⟩:=h
    obtain ⟨j,hj,rfl⟩:=List.mem_iff_getElem.1 hx
    rw [anyN_hit hj (by rw [List.getD_eq_getElem?_getD,List.getElem?_eq_getElem hj];simpa using hp)];rfl
end Go.Proofs.YtaiefdhenikiiaaC
namespace Go.Proofs.Ytaiefdhenikiiaa.Base
open Go.RowKit Go.Proofs.YtaiefdhenikiiaaW.PrintWords Go.Proofs.YtaiefdhenikiiaaW.PrintLast Go.Proofs.YtaiefdhenikiiaaW.PrintMore
attribute [local go_sem] max2_int qq1_ max_two min_two max_three min_three max_four min_four Go.Proofs.YtaiefdhenikiiaaZ.qu_   -- for this text's walks alone
set_option linter.unusedVariables false
set_option linter.unusedSimpArgs false
def qh2_.f (k:Nat) (a0_0:Int) (a0_1:Int) (l0_2:List (S79)) (a1_0:Int) (a1_1:Int) (l1_2:List (S79)):Option (Bool):=if a0_0=a1_0 then (if a0_1=a1_1 then ((qy_.f k l0_2 l1_2).bind fun t259=>(if t259=true then (some true) else (some false))) else (some false)) else (some false)
theorem qh2_.mono:∀ a0 a1 a2 a3 a4 a5 k,LeO (qh2_.f k a0 a1 a2 a3 a4 a5) (qh2_.f (k+1) a0 a1 a2 a3 a4 a5):=by
 intro a0 a1 a2 a3 a4 a5 k
 unfold qh2_.f
 repeat' first
   | (with_reducible exact qy_.mono _ _ _)
   | (with_reducible exact LeO.refl _)
   | (with_reducible exact LeO.none _)
   | (with_reducible refine LeO.ite ?_ ?_)
   | (with_reducible refine LeO.bind ?_ (fun _=>?_))
   | exact qy_.mono _ _ _
   | exact LeO.none _
   | refine LeO.ite ?_ ?_
   | refine LeO.bind ?_ (fun _=>?_)
set_option maxHeartbeats 8000000 in
set_option maxRecDepth 100000 in
theorem qh2_.calls (k:Nat) (a0_0:Int) (a0_1:Int) (A0_2:Option Addr) (c0_2:Nat) (l0_2:List (S79)) (a1_0:Int) (a1_1:Int) (A1_2:Option Addr) (c1_2:Nat) (l1_2:List (S79)) (r:Bool) (w:World) (hr0_2:Kd.C k79 w A0_2 l0_2.length l0_2) (hc0_2:l0_2.length≤c0_2) (hr1_2:Kd.C k79 w A1_2 l1_2.length l1_2) (hc1_2:l1_2.length≤c1_2) (h:qh2_.f k a0_0 a0_1 l0_2 a1_0 a1_1 l1_2=some r) :
  Calls Try.prog 33 #[.agg #[.int .i64 a0_0,.int .i64 a0_1,.slice A0_2 l0_2.length c0_2],.agg #[.int .i64 a1_0,.int .i64 a1_1,.slice A1_2 l1_2.length c1_2]] w fun e w'=>e=.returned (.bool r)∧Below w.heap.size w w':=by
 have hu38:=Try.underlying38
 have HR0_2:=aK hr0_2
 have HC0_2:=aK hc0_2
 clear hr0_2 hc0_2
 have HR1_2:=aK hr1_2
 have HC1_2:=aK hc1_2
 clear hr1_2 hc1_2
 have HB:=aK (Below.refl w.heap.size w)
 have H:(if a0_0=a1_0 then (if a0_1=a1_1 then ((qy_.f k l0_2 l1_2).bind fun t259=>(if t259=true then (some true) else (some false))) else (some false)) else (some false))=some r:=h
 clear h
 by_cases c3:a0_0=a1_0
 ·rw [if_pos c3] at H
  have c3b0:(a0_0 == a1_0)=true:=beq_iff_eq.mpr c3
  have c3b1:(a0_0 != a1_0)=false:=bne_eq_false_iff_eq.mpr c3
  clear c3
  by_cases c4:a0_1=a1_1
  ·rw [if_pos c4] at H
   have c4b0:(a0_1 == a1_1)=true:=beq_iff_eq.mpr c4
   have c4b1:(a0_1 != a1_1)=false:=bne_eq_false_iff_eq.mpr c4
   clear c4
   replace H:=Option.bind_eq_some_iff.mp H
   obtain ⟨t259,A50,H⟩:=H
   replace H:(if t259=true then (some true) else (some false))=some r:=H
   have A5:=aK A50
   clear A50
   by_cases c6:t259=true
   ·subst c6
    have H1:(some true)=some r:=by rw [if_pos rfl] at H;exact H
    clear H
    have H:=H1
    clear H1
    obtain rfl:=Option.some.inj H
    go_enter Try.func33,Try.ntmps33
    go_wp2_with (first|((with_reducible refine qf1_ (N:=2) rfl ?_);refine qg1_ ?hg (N:=2) ?hd (cs:=#[.int .i64 a0_0,.int .i64 a0_1,.slice A0_2 l0_2.length c0_2]) (t:=38) ?hr ?_;(case hd=>rfl);(case hg=>rfl);(case hr=>first|(go_simp;done)|(go_simp;rfl));intro gb257 hg w7 hbox hb;have n0_:=aK (qe_ (by repeat (first|(with_reducible first|exact HB.out|apply qb_|apply qa_|apply qc_)|exact HB.out)) hb);have n1_:=aK (hbox);have n2_:=aK ((by rw [hg];exact (qk_ (by repeat (first|(with_reducible first|exact HB.out|apply qb_|apply qa_|apply qc_)|exact HB.out))):w.heap.size≤gb257));have n3_:=aK ((by rw [hg];exact (qk_ (by repeat (first|(with_reducible first|exact HB.out|apply qb_|apply qa_|apply qc_)|exact HB.out))):w.heap.size≤gb257));clear HB;have HB:=n0_;have BK257:=n1_;have GW257:=n2_;have GE257:=n3_;clear n0_ n1_ n2_ n3_;clear hb hbox hg)|((with_reducible refine qf1_ (N:=3) rfl ?_);refine qg1_ ?hg (N:=3) ?hd (cs:=#[.int .i64 a1_0,.int .i64 a1_1,.slice A1_2 l1_2.length c1_2]) (t:=38) ?hr ?_;(case hd=>rfl);(case hg=>rfl);(case hr=>first|(go_simp;done)|(go_simp;rfl));intro gb258 hg w8 hbox hb;have n0_:=aK (ql_ (g:=gb257) (o:=.cells #[.int .i64 a0_0,.int .i64 a0_1,.slice A0_2 l0_2.length c0_2] 38 (0,0)) (by (with_reducible repeat (first|refine qg_ ?_ _|refine qi_ ?_|refine qf_ ?_ _));exact BK257.out) hb);have n1_:=aK (qe_ (by repeat (first|(with_reducible first|exact HB.out|apply qb_|apply qa_|apply qc_|refine qh_ ?_ GE257.out)|exact HB.out)) hb);have n2_:=aK (hbox);have n3_:=aK ((by rw [hg];exact (qk_ (by repeat (first|(with_reducible first|exact HB.out|apply qb_|apply qa_|apply qc_|refine qh_ ?_ GE257.out)|exact HB.out))):w.heap.size≤gb258));have n4_:=aK ((by rw [hg];exact (qk_ (by repeat (first|(with_reducible first|exact HB.out|apply qb_|apply qa_|apply qc_|refine qh_ ?_ GE257.out)|exact HB.out))):w.heap.size≤gb258));have n5_:=aK ((by rw [hg];exact Nat.ne_of_lt (blk_lt (g:=gb257) (o:=.cells #[.int .i64 a0_0,.int .i64 a0_1,.slice A0_2 l0_2.length c0_2] 38 (0,0)) (by (with_reducible repeat (first|refine qg_ ?_ _|refine qi_ ?_|refine qf_ ?_ _));exact BK257.out)):gb257 ≠ gb258));have n6_:=aK ((by rw [hg];exact Nat.ne_of_gt (blk_lt (g:=gb257) (o:=.cells #[.int .i64 a0_0,.int .i64 a0_1,.slice A0_2 l0_2.length c0_2] 38 (0,0)) (by (with_reducible repeat (first|refine qg_ ?_ _|refine qi_ ?_|refine qf_ ?_ _));exact BK257.out)):gb258 ≠ gb257));clear BK257;clear HB;have BK257:=n0_;have HB:=n1_;have BK258:=n2_;have GW258:=n3_;have GE258:=n4_;have NB257_258:=n5_;have NB258_257:=n6_;clear n0_ n1_ n2_ n3_ n4_ n5_ n6_;clear hb hbox hg;have hnb9:=NB257_258.out;have hnc9:=NB258_257.out;have hcz10_0:w8.cell? ⟨gb257,0,none⟩=some (.int .i64 a0_0):=(qj_ BK257.out 0).trans rfl;have hcz10_1:w8.cell? ⟨gb257,1,none⟩=some (.int .i64 a0_1):=(qj_ BK257.out 1).trans rfl;have hcz10_2:w8.cell? ⟨gb257,2,none⟩=some (.slice A0_2 l0_2.length c0_2):=(qj_ BK257.out 2).trans rfl;have hfz10_0:=qd_ BK257.out 0;have hfz10_1:=qd_ BK257.out 1;have hfz10_2:=qd_ BK257.out 2;have hcz11_0:w8.cell? ⟨gb258,0,none⟩=some (.int .i64 a1_0):=(qj_ BK258.out 0).trans rfl;have hcz11_1:w8.cell? ⟨gb258,1,none⟩=some (.int .i64 a1_1):=(qj_ BK258.out 1).trans rfl;have hcz11_2:w8.cell? ⟨gb258,2,none⟩=some (.slice A1_2 l1_2.length c1_2):=(qj_ BK258.out 2).trans rfl;have hfz11_0:=qd_ BK258.out 0;have hfz11_1:=qd_ BK258.out 1;have hfz11_2:=qd_ BK258.out 2)|((with_reducible refine qt_ (f:=25) rfl ?_);refine goesL_ (some 19) rfl rfl Try.func25 (by kernel_rfl) rfl #[.slice A0_2 l0_2.length c0_2,.slice A1_2 l1_2.length c1_2] rfl (by (try simp only [List.map_toArray,List.map_cons,List.map_nil]);first|done|rfl|(simp only [List.length_drop,List.length_take];rfl)) ?_;(with_reducible refine (qy_.calls k _ _ l0_2 _ _ l1_2 true _ ?side1 ?side2 ?side3 ?side4 A5.out).mono ?_);(case side1=>repeat (first|exact (Kd.qw1_ HR0_2.out HB.out)|(with_reducible refine Kd.qs2_ ?_ _)|(with_reducible refine Kd.qr2_ ?_ _)|(with_reducible refine Kd.C_drew ?_)));(case side2=>exact HC0_2.out);(case side3=>repeat (first|exact (Kd.qw1_ HR1_2.out HB.out)|(with_reducible refine Kd.qs2_ ?_ _)|(with_reducible refine Kd.qr2_ ?_ _)|(with_reducible refine Kd.C_drew ?_)));(case side4=>exact HC1_2.out);rintro e w12 ⟨rfl,hb⟩;refine ⟨_,rfl,?_⟩;have n0_:=aK (ql_ (g:=gb257) (o:=.cells #[.int .i64 a0_0,.int .i64 a0_1,.slice A0_2 l0_2.length c0_2] 38 (0,0)) (by (with_reducible repeat (first|refine qg_ ?_ _|refine qi_ ?_|refine qf_ ?_ _));exact BK257.out) hb);have n1_:=aK (ql_ (g:=gb258) (o:=.cells #[.int .i64 a1_0,.int .i64 a1_1,.slice A1_2 l1_2.length c1_2] 38 (0,0)) (by (with_reducible repeat (first|refine qg_ ?_ _|refine qi_ ?_|refine qf_ ?_ _));exact BK258.out) hb);have n2_:=aK (qe_ (by repeat (first|(with_reducible first|exact HB.out|apply qb_|apply qa_|apply qc_|refine qh_ ?_ GE257.out|refine qh_ ?_ GE258.out)|exact HB.out)) hb);clear BK257;clear BK258;clear HB;have BK257:=n0_;have BK258:=n1_;have HB:=n2_;clear n0_ n1_ n2_;(try clear hb);(try clear hb2);(try clear hk);(try clear hi)))
    go_ret
    exact ⟨by first|rfl|(simp [qn_,qm_] <;> rfl)|(simp [*,qn_,qm_] <;> rfl),by repeat (first|(with_reducible first|exact HB.out|apply qb_|apply qa_|apply qc_|refine qh_ ?_ GE257.out|refine qh_ ?_ GE258.out)|exact HB.out)⟩
   ·replace c6:=Bool.eq_false_iff.mpr c6
    subst c6
    have H1:(some false)=some r:=by rw [if_neg (show ¬ (false=true) by decide)] at H;exact H
    clear H
    have H:=H1
    clear H1
    obtain rfl:=Option.some.inj H
    go_enter Try.func33,Try.ntmps33
    go_wp2_with (first|((with_reducible refine qf1_ (N:=2) rfl ?_);refine qg1_ ?hg (N:=2) ?hd (cs:=#[.int .i64 a0_0,.int .i64 a0_1,.slice A0_2 l0_2.length c0_2]) (t:=38) ?hr ?_;(case hd=>rfl);(case hg=>rfl);(case hr=>first|(go_simp;done)|(go_simp;rfl));intro gb257 hg w13 hbox hb;have n0_:=aK (qe_ (by repeat (first|(with_reducible first|exact HB.out|apply qb_|apply qa_|apply qc_)|exact HB.out)) hb);have n1_:=aK (hbox);have n2_:=aK ((by rw [hg];exact (qk_ (by repeat (first|(with_reducible first|exact HB.out|apply qb_|apply qa_|apply qc_)|exact HB.out))):w.heap.size≤gb257));have n3_:=aK ((by rw [hg];exact (qk_ (by repeat (first|(with_reducible first|exact HB.out|apply qb_|apply qa_|apply qc_)|exact HB.out))):w.heap.size≤gb257));clear HB;have HB:=n0_;have BK257:=n1_;have GW257:=n2_;have GE257:=n3_;clear n0_ n1_ n2_ n3_;clear hb hbox hg)|((with_reducible refine qf1_ (N:=3) rfl ?_);refine qg1_ ?hg (N:=3) ?hd (cs:=#[.int .i64 a1_0,.int .i64 a1_1,.slice A1_2 l1_2.length c1_2]) (t:=38) ?hr ?_;(case hd=>rfl);(case hg=>rfl);(case hr=>first|(go_simp;done)|(go_simp;rfl));intro gb258 hg w14 hbox hb;have n0_:=aK (ql_ (g:=gb257) (o:=.cells #[.int .i64 a0_0,.int .i64 a0_1,.slice A0_2 l0_2.length c0_2] 38 (0,0)) (by (with_reducible repeat (first|refine qg_ ?_ _|refine qi_ ?_|refine qf_ ?_ _));exact BK257.out) hb);have n1_:=aK (qe_ (by repeat (first|(with_reducible first|exact HB.out|apply qb_|apply qa_|apply qc_|refine qh_ ?_ GE257.out)|exact HB.out)) hb);have n2_:=aK (hbox);have n3_:=aK ((by rw [hg];exact (qk_ (by repeat (first|(with_reducible first|exact HB.out|apply qb_|apply qa_|apply qc_|refine qh_ ?_ GE257.out)|exact HB.out))):w.heap.size≤gb258));have n4_:=aK ((by rw [hg];exact (qk_ (by repeat (first|(with_reducible first|exact HB.out|apply qb_|apply qa_|apply qc_|refine qh_ ?_ GE257.out)|exact HB.out))):w.heap.size≤gb258));have n5_:=aK ((by rw [hg];exact Nat.ne_of_lt (blk_lt (g:=gb257) (o:=.cells #[.int .i64 a0_0,.int .i64 a0_1,.slice A0_2 l0_2.length c0_2] 38 (0,0)) (by (with_reducible repeat (first|refine qg_ ?_ _|refine qi_ ?_|refine qf_ ?_ _));exact BK257.out)):gb257 ≠ gb258));have n6_:=aK ((by rw [hg];exact Nat.ne_of_gt (blk_lt (g:=gb257) (o:=.cells #[.int .i64 a0_0,.int .i64 a0_1,.slice A0_2 l0_2.length c0_2] 38 (0,0)) (by (with_reducible repeat (first|refine qg_ ?_ _|refine qi_ ?_|refine qf_ ?_ _));exact BK257.out)):gb258 ≠ gb257));clear BK257;clear HB;have BK257:=n0_;have HB:=n1_;have BK258:=n2_;have GW258:=n3_;have GE258:=n4_;have NB257_258:=n5_;have NB258_257:=n6_;clear n0_ n1_ n2_ n3_ n4_ n5_ n6_;clear hb hbox hg;have hnb15:=NB257_258.out;have hnc15:=NB258_257.out;have hcz16_0:w14.cell? ⟨gb257,0,none⟩=some (.int .i64 a0_0):=(qj_ BK257.out 0).trans rfl;have hcz16_1:w14.cell? ⟨gb257,1,none⟩=some (.int .i64 a0_1):=(qj_ BK257.out 1).trans rfl;have hcz16_2:w14.cell? ⟨gb257,2,none⟩=some (.slice A0_2 l0_2.length c0_2):=(qj_ BK257.out 2).trans rfl;have hfz16_0:=qd_ BK257.out 0;have hfz16_1:=qd_ BK257.out 1;have hfz16_2:=qd_ BK257.out 2;have hcz17_0:w14.cell? ⟨gb258,0,none⟩=some (.int .i64 a1_0):=(qj_ BK258.out 0).trans rfl;have hcz17_1:w14.cell? ⟨gb258,1,none⟩=some (.int .i64 a1_1):=(qj_ BK258.out 1).trans rfl;have hcz17_2:w14.cell? ⟨gb258,2,none⟩=some (.slice A1_2 l1_2.length c1_2):=(qj_ BK258.out 2).trans rfl;have hfz17_0:=qd_ BK258.out 0;have hfz17_1:=qd_ BK258.out 1;have hfz17_2:=qd_ BK258.out 2)|((with_reducible refine qt_ (f:=25) rfl ?_);refine goesL_ (some 19) rfl rfl Try.func25 (by kernel_rfl) rfl #[.slice A0_2 l0_2.length c0_2,.slice A1_2 l1_2.length c1_2] rfl (by (try simp only [List.map_toArray,List.map_cons,List.map_nil]);first|done|rfl|(simp only [List.length_drop,List.length_take];rfl)) ?_;(with_reducible refine (qy_.calls k _ _ l0_2 _ _ l1_2 false _ ?side1 ?side2 ?side3 ?side4 A5.out).mono ?_);(case side1=>repeat (first|exact (Kd.qw1_ HR0_2.out HB.out)|(with_reducible refine Kd.qs2_ ?_ _)|(with_reducible refine Kd.qr2_ ?_ _)|(with_reducible refine Kd.C_drew ?_)));(case side2=>exact HC0_2.out);(case side3=>repeat (first|exact (Kd.qw1_ HR1_2.out HB.out)|(with_reducible refine Kd.qs2_ ?_ _)|(with_reducible refine Kd.qr2_ ?_ _)|(with_reducible refine Kd.C_drew ?_)));(case side4=>exact HC1_2.out);rintro e w18 ⟨rfl,hb⟩;refine ⟨_,rfl,?_⟩;have n0_:=aK (ql_ (g:=gb257) (o:=.cells #[.int .i64 a0_0,.int .i64 a0_1,.slice A0_2 l0_2.length c0_2] 38 (0,0)) (by (with_reducible repeat (first|refine qg_ ?_ _|refine qi_ ?_|refine qf_ ?_ _));exact BK257.out) hb);have n1_:=aK (ql_ (g:=gb258) (o:=.cells #[.int .i64 a1_0,.int .i64 a1_1,.slice A1_2 l1_2.length c1_2] 38 (0,0)) (by (with_reducible repeat (first|refine qg_ ?_ _|refine qi_ ?_|refine qf_ ?_ _));exact BK258.out) hb);have n2_:=aK (qe_ (by repeat (first|(with_reducible first|exact HB.out|apply qb_|apply qa_|apply qc_|refine qh_ ?_ GE257.out|refine qh_ ?_ GE258.out)|exact HB.out)) hb);clear BK257;clear BK258;clear HB;have BK257:=n0_;have BK258:=n1_;have HB:=n2_;clear n0_ n1_ n2_;(try clear hb);(try clear hb2);(try clear hk);(try clear hi)))
    go_ret
    exact ⟨by first|rfl|(simp [qn_,qm_] <;> rfl)|(simp [*,qn_,qm_] <;> rfl),by repeat (first|(with_reducible first|exact HB.out|apply qb_|apply qa_|apply qc_|refine qh_ ?_ GE257.out|refine qh_ ?_ GE258.out)|exact HB.out)⟩
  ·rw [if_neg c4] at H
   have c4b0:(a0_1 == a1_1)=false:=beq_eq_false_iff_ne.mpr c4
   have c4b1:(a0_1 != a1_1)=true:=bne_iff_ne.mpr c4
   obtain rfl:=Option.some.inj H
   go_enter Try.func33,Try.ntmps33
   go_wp2_with (first|((with_reducible refine qf1_ (N:=2) rfl ?_);refine qg1_ ?hg (N:=2) ?hd (cs:=#[.int .i64 a0_0,.int .i64 a0_1,.slice A0_2 l0_2.length c0_2]) (t:=38) ?hr ?_;(case hd=>rfl);(case hg=>rfl);(case hr=>first|(go_simp;done)|(go_simp;rfl));intro gb257 hg w19 hbox hb;have n0_:=aK (qe_ (by repeat (first|(with_reducible first|exact HB.out|apply qb_|apply qa_|apply qc_)|exact HB.out)) hb);have n1_:=aK (hbox);have n2_:=aK ((by rw [hg];exact (qk_ (by repeat (first|(with_reducible first|exact HB.out|apply qb_|apply qa_|apply qc_)|exact HB.out))):w.heap.size≤gb257));have n3_:=aK ((by rw [hg];exact (qk_ (by repeat (first|(with_reducible first|exact HB.out|apply qb_|apply qa_|apply qc_)|exact HB.out))):w.heap.size≤gb257));clear HB;have HB:=n0_;have BK257:=n1_;have GW257:=n2_;have GE257:=n3_;clear n0_ n1_ n2_ n3_;clear hb hbox hg)|((with_reducible refine qf1_ (N:=3) rfl ?_);refine qg1_ ?hg (N:=3) ?hd (cs:=#[.int .i64 a1_0,.int .i64 a1_1,.slice A1_2 l1_2.length c1_2]) (t:=38) ?hr ?_;(case hd=>rfl);(case hg=>rfl);(case hr=>first|(go_simp;done)|(go_simp;rfl));intro gb258 hg w20 hbox hb;have n0_:=aK (ql_ (g:=gb257) (o:=.cells #[.int .i64 a0_0,.int .i64 a0_1,.slice A0_2 l0_2.length c0_2] 38 (0,0)) (by (with_reducible repeat (first|refine qg_ ?_ _|refine qi_ ?_|refine qf_ ?_ _));exact BK257.out) hb);have n1_:=aK (qe_ (by repeat (first|(with_reducible first|exact HB.out|apply qb_|apply qa_|apply qc_|refine qh_ ?_ GE257.out)|exact HB.out)) hb);have n2_:=aK (hbox);have n3_:=aK ((by rw [hg];exact (qk_ (by repeat (first|(with_reducible first|exact HB.out|apply qb_|apply qa_|apply qc_|refine qh_ ?_ GE257.out)|exact HB.out))):w.heap.size≤gb258));have n4_:=aK ((by rw [hg];exact (qk_ (by repeat (first|(with_reducible first|exact HB.out|apply qb_|apply qa_|apply qc_|refine qh_ ?_ GE257.out)|exact HB.out))):w.heap.size≤gb258));have n5_:=aK ((by rw [hg];exact Nat.ne_of_lt (blk_lt (g:=gb257) (o:=.cells #[.int .i64 a0_0,.int .i64 a0_1,.slice A0_2 l0_2.length c0_2] 38 (0,0)) (by (with_reducible repeat (first|refine qg_ ?_ _|refine qi_ ?_|refine qf_ ?_ _));exact BK257.out)):gb257 ≠ gb258));have n6_:=aK ((by rw [hg];exact Nat.ne_of_gt (blk_lt (g:=gb257) (o:=.cells #[.int .i64 a0_0,.int .i64 a0_1,.slice A0_2 l0_2.length c0_2] 38 (0,0)) (by (with_reducible repeat (first|refine qg_ ?_ _|refine qi_ ?_|refine qf_ ?_ _));exact BK257.out)):gb258 ≠ gb257));clear BK257;clear HB;have BK257:=n0_;have HB:=n1_;have BK258:=n2_;have GW258:=n3_;have GE258:=n4_;have NB257_258:=n5_;have NB258_257:=n6_;clear n0_ n1_ n2_ n3_ n4_ n5_ n6_;clear hb hbox hg;have hnb21:=NB257_258.out;have hnc21:=NB258_257.out;have hcz22_0:w20.cell? ⟨gb257,0,none⟩=some (.int .i64 a0_0):=(qj_ BK257.out 0).trans rfl;have hcz22_1:w20.cell? ⟨gb257,1,none⟩=some (.int .i64 a0_1):=(qj_ BK257.out 1).trans rfl;have hcz22_2:w20.cell? ⟨gb257,2,none⟩=some (.slice A0_2 l0_2.length c0_2):=(qj_ BK257.out 2).trans rfl;have hfz22_0:=qd_ BK257.out 0;have hfz22_1:=qd_ BK257.out 1;have hfz22_2:=qd_ BK257.out 2;have hcz23_0:w20.cell? ⟨gb258,0,none⟩=some (.int .i64 a1_0):=(qj_ BK258.out 0).trans rfl;have hcz23_1:w20.cell? ⟨gb258,1,none⟩=some (.int .i64 a1_1):=(qj_ BK258.out 1).trans rfl;have hcz23_2:w20.cell? ⟨gb258,2,none⟩=some (.slice A1_2 l1_2.length c1_2):=(qj_ BK258.out 2).trans rfl;have hfz23_0:=qd_ BK258.out 0;have hfz23_1:=qd_ BK258.out 1;have hfz23_2:=qd_ BK258.out 2))
   go_ret
   exact ⟨by first|rfl|(simp [qn_,qm_] <;> rfl)|(simp [*,qn_,qm_] <;> rfl),by repeat (first|(with_reducible first|exact HB.out|apply qb_|apply qa_|apply qc_|refine qh_ ?_ GE257.out|refine qh_ ?_ GE258.out)|exact HB.out)⟩
 ·rw [if_neg c3] at H
  have c3b0:(a0_0 == a1_0)=false:=beq_eq_false_iff_ne.mpr c3
  have c3b1:(a0_0 != a1_0)=true:=bne_iff_ne.mpr c3
  obtain rfl:=Option.some.inj H
  go_enter Try.func33,Try.ntmps33
  go_wp2_with (first|((with_reducible refine qf1_ (N:=2) rfl ?_);refine qg1_ ?hg (N:=2) ?hd (cs:=#[.int .i64 a0_0,.int .i64 a0_1,.slice A0_2 l0_2.length c0_2]) (t:=38) ?hr ?_;(case hd=>rfl);(case hg=>rfl);(case hr=>first|(go_simp;done)|(go_simp;rfl));intro gb257 hg w24 hbox hb;have n0_:=aK (qe_ (by repeat (first|(with_reducible first|exact HB.out|apply qb_|apply qa_|apply qc_)|exact HB.out)) hb);have n1_:=aK (hbox);have n2_:=aK ((by rw [hg];exact (qk_ (by repeat (first|(with_reducible first|exact HB.out|apply qb_|apply qa_|apply qc_)|exact HB.out))):w.heap.size≤gb257));have n3_:=aK ((by rw [hg];exact (qk_ (by repeat (first|(with_reducible first|exact HB.out|apply qb_|apply qa_|apply qc_)|exact HB.out))):w.heap.size≤gb257));clear HB;have HB:=n0_;have BK257:=n1_;have GW257:=n2_;have GE257:=n3_;clear n0_ n1_ n2_ n3_;clear hb hbox hg)|((with_reducible refine qf1_ (N:=3) rfl ?_);refine qg1_ ?hg (N:=3) ?hd (cs:=#[.int .i64 a1_0,.int .i64 a1_1,.slice A1_2 l1_2.length c1_2]) (t:=38) ?hr ?_;(case hd=>rfl);(case hg=>rfl);(case hr=>first|(go_simp;done)|(go_simp;rfl));intro gb258 hg w25 hbox hb;have n0_:=aK (ql_ (g:=gb257) (o:=.cells #[.int .i64 a0_0,.int .i64 a0_1,.slice A0_2 l0_2.length c0_2] 38 (0,0)) (by (with_reducible repeat (first|refine qg_ ?_ _|refine qi_ ?_|refine qf_ ?_ _));exact BK257.out) hb);have n1_:=aK (qe_ (by repeat (first|(with_reducible first|exact HB.out|apply qb_|apply qa_|apply qc_|refine qh_ ?_ GE257.out)|exact HB.out)) hb);have n2_:=aK (hbox);have n3_:=aK ((by rw [hg];exact (qk_ (by repeat (first|(with_reducible first|exact HB.out|apply qb_|apply qa_|apply qc_|refine qh_ ?_ GE257.out)|exact HB.out))):w.heap.size≤gb258));have n4_:=aK ((by rw [hg];exact (qk_ (by repeat (first|(with_reducible first|exact HB.out|apply qb_|apply qa_|apply qc_|refine qh_ ?_ GE257.out)|exact HB.out))):w.heap.size≤gb258));have n5_:=aK ((by rw [hg];exact Nat.ne_of_lt (blk_lt (g:=gb257) (o:=.cells #[.int .i64 a0_0,.int .i64 a0_1,.slice A0_2 l0_2.length c0_2] 38 (0,0)) (by (with_reducible repeat (first|refine qg_ ?_ _|refine qi_ ?_|refine qf_ ?_ _));exact BK257.out)):gb257 ≠ gb258));have n6_:=aK ((by rw [hg];exact Nat.ne_of_gt (blk_lt (g:=gb257) (o:=.cells #[.int .i64 a0_0,.int .i64 a0_1,.slice A0_2 l0_2.length c0_2] 38 (0,0)) (by (with_reducible repeat (first|refine qg_ ?_ _|refine qi_ ?_|refine qf_ ?_ _));exact BK257.out)):gb258 ≠ gb257));clear BK257;clear HB;have BK257:=n0_;have HB:=n1_;have BK258:=n2_;have GW258:=n3_;have GE258:=n4_;have NB257_258:=n5_;have NB258_257:=n6_;clear n0_ n1_ n2_ n3_ n4_ n5_ n6_;clear hb hbox hg;have hnb26:=NB257_258.out;have hnc26:=NB258_257.out;have hcz27_0:w25.cell? ⟨gb257,0,none⟩=some (.int .i64 a0_0):=(qj_ BK257.out 0).trans rfl;have hcz27_1:w25.cell? ⟨gb257,1,none⟩=some (.int .i64 a0_1):=(qj_ BK257.out 1).trans rfl;have hcz27_2:w25.cell? ⟨gb257,2,none⟩=some (.slice A0_2 l0_2.length c0_2):=(qj_ BK257.out 2).trans rfl;have hfz27_0:=qd_ BK257.out 0;have hfz27_1:=qd_ BK257.out 1;have hfz27_2:=qd_ BK257.out 2;have hcz28_0:w25.cell? ⟨gb258,0,none⟩=some (.int .i64 a1_0):=(qj_ BK258.out 0).trans rfl;have hcz28_1:w25.cell? ⟨gb258,1,none⟩=some (.int .i64 a1_1):=(qj_ BK258.out 1).trans rfl;have hcz28_2:w25.cell? ⟨gb258,2,none⟩=some (.slice A1_2 l1_2.length c1_2):=(qj_ BK258.out 2).trans rfl;have hfz28_0:=qd_ BK258.out 0;have hfz28_1:=qd_ BK258.out 1;have hfz28_2:=qd_ BK258.out 2))
  go_ret
  exact ⟨by first|rfl|(simp [qn_,qm_] <;> rfl)|(simp [*,qn_,qm_] <;> rfl),by repeat (first|(with_reducible first|exact HB.out|apply qb_|apply qa_|apply qc_|refine qh_ ?_ GE257.out|refine qh_ ?_ GE258.out)|exact HB.out)⟩
end Go.Proofs.Ytaiefdhenikiiaa.Base
namespace Go.Proofs.Ytaiefdhenikiiaa.Base
open Go.RowKit Go.Proofs.YtaiefdhenikiiaaW.PrintWords Go.Proofs.YtaiefdhenikiiaaW.PrintLast Go.Proofs.YtaiefdhenikiiaaW.PrintMore
attribute [local go_sem] max2_int qq1_ max_two min_two max_three min_three max_four min_four Go.Proofs.YtaiefdhenikiiaaZ.qu_   -- for this text's walks alone
set_option linter.unusedVariables false
set_option linter.unusedSimpArgs false
def qf2_.f (k:Nat) (a0_0:Int) (a0_1:Int) (l0_2:List (S79)) (a1:Int):Option (Int):=(qq_.f k l0_2 a1).bind fun t441=>(if t441 < 0 then (some (-1)) else (some t441))
theorem qf2_.mono:∀ a0 a1 a2 a3 k,LeO (qf2_.f k a0 a1 a2 a3) (qf2_.f (k+1) a0 a1 a2 a3):=by
 intro a0 a1 a2 a3 k
 unfold qf2_.f
 repeat' first
   | (with_reducible exact qq_.mono _ _ _)
   | (with_reducible exact LeO.refl _)
   | (with_reducible exact LeO.none _)
   | (with_reducible refine LeO.ite ?_ ?_)
   | (with_reducible refine LeO.bind ?_ (fun _=>?_))
   | exact qq_.mono _ _ _
   | exact LeO.none _
   | refine LeO.ite ?_ ?_
   | refine LeO.bind ?_ (fun _=>?_)
set_option maxHeartbeats 8000000 in
set_option maxRecDepth 100000 in
theorem qf2_.calls (k:Nat) (a0_0:Int) (a0_1:Int) (A0_2:Option Addr) (c0_2:Nat) (l0_2:List (S79)) (a1:Int) (r:Int) (w:World) (hr0_2:Kd.C k79 w A0_2 l0_2.length l0_2) (hc0_2:l0_2.length≤c0_2) (h:qf2_.f k a0_0 a0_1 l0_2 a1=some r) :
  Calls Try.prog 39 #[.agg #[.int .i64 a0_0,.int .i64 a0_1,.slice A0_2 l0_2.length c0_2],.int .i64 a1] w fun e w'=>e=.returned (.int .i64 r)∧Below w.heap.size w w':=by
 have hu38:=Try.underlying38
 have HR0_2:=aK hr0_2
 have HC0_2:=aK hc0_2
 clear hr0_2 hc0_2
 have HB:=aK (Below.refl w.heap.size w)
 have H:((qq_.f k l0_2 a1).bind fun t441=>(if t441 < 0 then (some (-1)) else (some t441)))=some r:=h
 clear h
 replace H:=Option.bind_eq_some_iff.mp H
 obtain ⟨t441,A30,H⟩:=H
 replace H:(if t441 < 0 then (some (-1)) else (some t441))=some r:=H
 have A3:=aK A30
 clear A30
 by_cases c4:t441 < 0
 ·rw [if_pos c4] at H
  have c4b0:decide (t441 < 0)=true:=decide_eq_true c4
  clear c4
  obtain rfl:=Option.some.inj H
  go_enter Try.func39,Try.ntmps39
  go_wp2_with (first|((with_reducible refine qf1_ (N:=2) rfl ?_);refine qg1_ ?hg (N:=2) ?hd (cs:=#[.int .i64 a0_0,.int .i64 a0_1,.slice A0_2 l0_2.length c0_2]) (t:=38) ?hr ?_;(case hd=>rfl);(case hg=>rfl);(case hr=>first|(go_simp;done)|(go_simp;rfl));intro gb440 hg w5 hbox hb;have n0_:=aK (qe_ (by repeat (first|(with_reducible first|exact HB.out|apply qb_|apply qa_|apply qc_)|exact HB.out)) hb);have n1_:=aK (hbox);have n2_:=aK ((by rw [hg];exact (qk_ (by repeat (first|(with_reducible first|exact HB.out|apply qb_|apply qa_|apply qc_)|exact HB.out))):w.heap.size≤gb440));have n3_:=aK ((by rw [hg];exact (qk_ (by repeat (first|(with_reducible first|exact HB.out|apply qb_|apply qa_|apply qc_)|exact HB.out))):w.heap.size≤gb440));clear HB;have HB:=n0_;have BK440:=n1_;have GW440:=n2_;have GE440:=n3_;clear n0_ n1_ n2_ n3_;clear hb hbox hg;have hcz6_0:w5.cell? ⟨gb440,0,none⟩=some (.int .i64 a0_0):=(qj_ BK440.out 0).trans rfl;have hcz6_1:w5.cell? ⟨gb440,1,none⟩=some (.int .i64 a0_1):=(qj_ BK440.out 1).trans rfl;have hcz6_2:w5.cell? ⟨gb440,2,none⟩=some (.slice A0_2 l0_2.length c0_2):=(qj_ BK440.out 2).trans rfl;have hfz6_0:=qd_ BK440.out 0;have hfz6_1:=qd_ BK440.out 1;have hfz6_2:=qd_ BK440.out 2)|((with_reducible refine qt_ (f:=27) rfl ?_);refine goesL_ (some 8) rfl rfl Try.func27 (by kernel_rfl) rfl #[.slice A0_2 l0_2.length c0_2,.int .i64 a1] rfl (by (try simp only [List.map_toArray,List.map_cons,List.map_nil]);first|done|rfl|(simp only [List.length_drop,List.length_take];rfl)) ?_;(with_reducible refine (qq_.calls k _ _ l0_2 a1 t441 _ ?side1 ?side2 A3.out).mono ?_);(case side1=>repeat (first|exact (Kd.qw1_ HR0_2.out HB.out)|(with_reducible refine Kd.qs2_ ?_ _)|(with_reducible refine Kd.qr2_ ?_ _)|(with_reducible refine Kd.C_drew ?_)));(case side2=>exact HC0_2.out);rintro e w7 ⟨rfl,hb⟩;refine ⟨_,rfl,?_⟩;have n0_:=aK (ql_ (g:=gb440) (o:=.cells #[.int .i64 a0_0,.int .i64 a0_1,.slice A0_2 l0_2.length c0_2] 38 (0,0)) (by (with_reducible repeat (first|refine qg_ ?_ _|refine qi_ ?_|refine qf_ ?_ _));exact BK440.out) hb);have n1_:=aK (qe_ (by repeat (first|(with_reducible first|exact HB.out|apply qb_|apply qa_|apply qc_|refine qh_ ?_ GE440.out)|exact HB.out)) hb);clear BK440;clear HB;have BK440:=n0_;have HB:=n1_;clear n0_ n1_;(try clear hb);(try clear hb2);(try clear hk);(try clear hi)))
  go_ret
  exact ⟨by first|rfl|(simp [qn_,qm_] <;> rfl)|(simp [*,qn_,qm_] <;> rfl),by repeat (first|(with_reducible first|exact HB.out|apply qb_|apply qa_|apply qc_|refine qh_ ?_ GE440.out)|exact HB.out)⟩
 ·rw [if_neg c4] at H
  have c4b0:decide (t441 < 0)=false:=decide_eq_false c4
  clear c4
  obtain rfl:=Option.some.inj H
  go_enter Try.func39,Try.ntmps39
  go_wp2_with (first|((with_reducible refine qf1_ (N:=2) rfl ?_);refine qg1_ ?hg (N:=2) ?hd (cs:=#[.int .i64 a0_0,.int .i64 a0_1,.slice A0_2 l0_2.length c0_2]) (t:=38) ?hr ?_;(case hd=>rfl);(case hg=>rfl);(case hr=>first|(go_simp;done)|(go_simp;rfl));intro gb440 hg w8 hbox hb;have n0_:=aK (qe_ (by repeat (first|(with_reducible first|exact HB.out|apply qb_|apply qa_|apply qc_)|exact HB.out)) hb);have n1_:=aK (hbox);have n2_:=aK ((by rw [hg];exact (qk_ (by repeat (first|(with_reducible first|exact HB.out|apply qb_|apply qa_|apply qc_)|exact HB.out))):w.heap.size≤gb440));have n3_:=aK ((by rw [hg];exact (qk_ (by repeat (first|(with_reducible first|exact HB.out|apply qb_|apply qa_|apply qc_)|exact HB.out))):w.heap.size≤gb440));clear HB;have HB:=n0_;have BK440:=n1_;have GW440:=n2_;have GE440:=n3_;clear n0_ n1_ n2_ n3_;clear hb hbox hg;have hcz9_0:w8.cell? ⟨gb440,0,none⟩=some (.int .i64 a0_0):=(qj_ BK440.out 0).trans rfl;have hcz9_1:w8.cell? ⟨gb440,1,none⟩=some (.int .i64 a0_1):=(qj_ BK440.out 1).trans rfl;have hcz9_2:w8.cell? ⟨gb440,2,none⟩=some (.slice A0_2 l0_2.length c0_2):=(qj_ BK440.out 2).trans rfl;have hfz9_0:=qd_ BK440.out 0;have hfz9_1:=qd_ BK440.out 1;have hfz9_2:=qd_ BK440.out 2)|((with_reducible refine qt_ (f:=27) rfl ?_);refine goesL_ (some 8) rfl rfl Try.func27 (by kernel_rfl) rfl #[.slice A0_2 l0_2.length c0_2,.int .i64 a1] rfl (by (try simp only [List.map_toArray,List.map_cons,List.map_nil]);first|done|rfl|(simp only [List.length_drop,List.length_take];rfl)) ?_;(with_reducible refine (qq_.calls k _ _ l0_2 a1 t441 _ ?side1 ?side2 A3.out).mono ?_);(case side1=>repeat (first|exact (Kd.qw1_ HR0_2.out HB.out)|(with_reducible refine Kd.qs2_ ?_ _)|(with_reducible refine Kd.qr2_ ?_ _)|(with_reducible refine Kd.C_drew ?_)));(case side2=>exact HC0_2.out);rintro e w10 ⟨rfl,hb⟩;refine ⟨_,rfl,?_⟩;have n0_:=aK (ql_ (g:=gb440) (o:=.cells #[.int .i64 a0_0,.int .i64 a0_1,.slice A0_2 l0_2.length c0_2] 38 (0,0)) (by (with_reducible repeat (first|refine qg_ ?_ _|refine qi_ ?_|refine qf_ ?_ _));exact BK440.out) hb);have n1_:=aK (qe_ (by repeat (first|(with_reducible first|exact HB.out|apply qb_|apply qa_|apply qc_|refine qh_ ?_ GE440.out)|exact HB.out)) hb);clear BK440;clear HB;have BK440:=n0_;have HB:=n1_;clear n0_ n1_;(try clear hb);(try clear hb2);(try clear hk);(try clear hi)))
  go_ret
  exact ⟨by first|rfl|(simp [qn_,qm_] <;> rfl)|(simp [*,qn_,qm_] <;> rfl),by repeat (first|(with_reducible first|exact HB.out|apply qb_|apply qa_|apply qc_|refine qh_ ?_ GE440.out)|exact HB.out)⟩
end Go.Proofs.Ytaiefdhenikiiaa.Base
namespace Go.Proofs.Ytaiefdhenikiiaa.Base
open Go.RowKit Go.Proofs.YtaiefdhenikiiaaW.PrintWords Go.Proofs.YtaiefdhenikiiaaW.PrintLast Go.Proofs.YtaiefdhenikiiaaW.PrintMore
attribute [local go_sem] max2_int qq1_ max_two min_two max_three min_three max_four min_four Go.Proofs.YtaiefdhenikiiaaZ.qu_   -- for this text's walks alone
set_option linter.unusedVariables false
set_option linter.unusedSimpArgs false
def qc3_.f (l0:List Int) (a1:Int):Option (Int):=if (wrap64 (a1 - (l0.length:Int))) < 0 then (some (-1)) else (some (wrap64 (a1 - (l0.length:Int))))
set_option maxHeartbeats 8000000 in
set_option maxRecDepth 100000 in
theorem qc3_.calls (A0:Option Addr) (c0:Nat) (l0:List Int) (a1:Int) (r:Int) (w:World) (hr0:Kd.C (Kd.int .i64) w A0 l0.length l0) (hc0:l0.length≤c0) (h:qc3_.f l0 a1=some r) :
  Calls Try.prog 114 #[.slice A0 l0.length c0,.int .i64 a1] w fun e w'=>e=.returned (.int .i64 r)∧Drawn0 w w':=by
 have HR0:=aK hr0
 have HC0:=aK hc0
 clear hr0 hc0
 have H:(if (wrap64 (a1 - (l0.length:Int))) < 0 then (some (-1)) else (some (wrap64 (a1 - (l0.length:Int)))))=some r:=h
 clear h
 by_cases c3:(wrap64 (a1 - (l0.length:Int))) < 0
 ·rw [if_pos c3] at H
  have c3b0:decide ((wrap64 (a1 - (l0.length:Int))) < 0)=true:=decide_eq_true c3
  clear c3
  obtain rfl:=Option.some.inj H
  go_enter Try.func114,Try.ntmps114
  go_wp2
  go_ret
  exact ⟨by first|rfl|(simp;done)|(simp [*];done)|(simp [Go.Proofs.YtaiefdhenikiiaaZ.bne_nil];done),by repeat (first|exact Drawn0.refl _|apply Drawn0.step)⟩
 ·rw [if_neg c3] at H
  have c3b0:decide ((wrap64 (a1 - (l0.length:Int))) < 0)=false:=decide_eq_false c3
  clear c3
  obtain rfl:=Option.some.inj H
  go_enter Try.func114,Try.ntmps114
  go_wp2
  go_ret
  exact ⟨by first|rfl|(simp;done)|(simp [*];done)|(simp [Go.Proofs.YtaiefdhenikiiaaZ.bne_nil];done),by repeat (first|exact Drawn0.refl _|apply Drawn0.step)⟩
end Go.Proofs.Ytaiefdhenikiiaa.Base
namespace Go.Proofs.Ytaiefdhenikiiaa.Base
open Go.RowKit Go.Proofs.YtaiefdhenikiiaaW.PrintWords Go.Proofs.YtaiefdhenikiiaaW.PrintLast Go.Proofs.YtaiefdhenikiiaaW.PrintMore
attribute [local go_sem] max2_int qq1_ max_two min_two max_three min_three max_four min_four Go.Proofs.YtaiefdhenikiiaaZ.qu_   -- for this text's walks alone
set_option linter.unusedVariables false
set_option linter.unusedSimpArgs false
def qb1_.l0:Nat→List (List Int)→Int→Int→Option (Int)
 | 0,_,_,_=>none
 | k+1,x0,x1,x5=>if x5 < (x0.length:Int) then (if 0≤x5 then ((qc3_.f (rd_L7 x0 x5) x1).bind fun t934=>(if t934 < 0 then (some (-1)) else (qb1_.l0 k x0 t934 (wrap64 (x5+1))))) else (none)) else (some x1)
def qb1_.f (k:Nat) (l0:List (List Int)) (a1:Int):Option (Int):=if (wrap64 (a1 - (l0.length:Int))) < 0 then (some (-1)) else (qb1_.l0 k l0 (wrap64 (a1 - (l0.length:Int))) 0)
theorem qb1_.mono_l:∀ k,(∀ y0 y1 y2,LeO (qb1_.l0 k y0 y1 y2) (qb1_.l0 (k+1) y0 y1 y2))
 | 0=>fun _ _ _ r h=>by simp [qb1_.l0] at h
 | k+1=>by
  have ih0:=qb1_.mono_l k
  ·intro y0 y1 y2
   unfold qb1_.l0
   repeat' first
   | (with_reducible exact ih0 _ _ _)
   | (with_reducible exact LeO.refl _)
   | (with_reducible exact LeO.none _)
   | (with_reducible refine LeO.ite ?_ ?_)
   | (with_reducible refine LeO.bind ?_ (fun _=>?_))
   | exact ih0 _ _ _
   | exact LeO.none _
   | refine LeO.ite ?_ ?_
   | refine LeO.bind ?_ (fun _=>?_)
theorem qb1_.mono:∀ a0 a1 k,LeO (qb1_.f k a0 a1) (qb1_.f (k+1) a0 a1):=by
 intro a0 a1 k
 have ih0:=qb1_.mono_l k
 unfold qb1_.f
 repeat' first
   | (with_reducible exact ih0 _ _ _)
   | (with_reducible exact LeO.refl _)
   | (with_reducible exact LeO.none _)
   | (with_reducible refine LeO.ite ?_ ?_)
   | (with_reducible refine LeO.bind ?_ (fun _=>?_))
   | exact ih0 _ _ _
   | exact LeO.none _
   | refine LeO.ite ?_ ?_
   | refine LeO.bind ?_ (fun _=>?_)
set_option maxHeartbeats 8000000 in
set_option maxRecDepth 100000 in
theorem qb1_.calls (k:Nat) (A0:Option Addr) (c0:Nat) (l0:List (List Int)) (a1:Int) (r:Int) (w:World) (hr0:Kd.C (Kd.slice 2 (Kd.int .i64)) w A0 l0.length l0) (hc0:l0.length≤c0) (h:qb1_.f k l0 a1=some r) :
  Calls Try.prog 53 #[.slice A0 l0.length c0,.int .i64 a1] w fun e w'=>e=.returned (.int .i64 r)∧Drawn0 w w':=by
 have HR0:=aK hr0
 have HC0:=aK hc0
 clear hr0 hc0
 have H:(if (wrap64 (a1 - (l0.length:Int))) < 0 then (some (-1)) else (qb1_.l0 k l0 (wrap64 (a1 - (l0.length:Int))) 0))=some r:=h
 clear h
 by_cases c3:(wrap64 (a1 - (l0.length:Int))) < 0
 ·rw [if_pos c3] at H
  have c3b0:decide ((wrap64 (a1 - (l0.length:Int))) < 0)=true:=decide_eq_true c3
  clear c3
  obtain rfl:=Option.some.inj H
  go_enter Try.func53,Try.ntmps53
  go_wp2
  go_ret
  exact ⟨by first|rfl|(simp;done)|(simp [*];done)|(simp [Go.Proofs.YtaiefdhenikiiaaZ.bne_nil];done),by repeat (first|exact Drawn0.refl _|apply Drawn0.step)⟩
 ·rw [if_neg c3] at H
  have c3b0:decide ((wrap64 (a1 - (l0.length:Int))) < 0)=false:=decide_eq_false c3
  clear c3
  have H':=aK H
  clear H
  go_enter Try.func53,Try.ntmps53
  go_wp2
  go_loopg [1,5] k (fun kq v1 v5 w'=>∃ (x1_1:Int) (x5_1:Int),v1=.int .i64 x1_1∧v5=.int .i64 x5_1∧Aside0 (qb1_.l0 kq l0 x1_1 x5_1=some r)∧Aside0 (kq≤k)∧Drawn0 w w')
  case atStart=>exact ⟨(wrap64 (a1 - (l0.length:Int))),(0),(by first|rfl|(simp;done)|(simp [*];done)),(by first|rfl|(simp;done)|(simp [*];done)),H',⟨Nat.le_refl _⟩,by repeat (first|exact Drawn0.refl _|apply Drawn0.step)⟩
  case round =>
   clear H'
   try clear p2
   try clear c3
   try clear c3b0
   obtain ⟨x1_1,x5_1,rfl,rfl,HA,HK1,⟨m1,rfl⟩⟩:=hrel
   cases gk with
   | zero=>exact absurd HA.out (by simp [qb1_.l0])
   | succ k1 =>
    have H:=HA.out
    clear HA
    simp only [qb1_.l0] at H
    by_cases c4:x5_1 < (l0.length:Int)
    ·rw [if_pos c4] at H
     have c4b0:decide (x5_1 < (l0.length:Int))=true:=decide_eq_true c4
     clear c4
     by_cases c5:0≤x5_1
     ·rw [if_pos c5] at H
      have c5b0:decide (0≤x5_1)=true:=decide_eq_true c5
      clear c5
      replace H:=Option.bind_eq_some_iff.mp H
      obtain ⟨t934,A60,H⟩:=H
      replace H:(if t934 < 0 then (some (-1)) else (qb1_.l0 k1 l0 t934 (wrap64 (x5_1+1))))=some r:=H
      have A6:=aK A60
      clear A60
      by_cases c7:t934 < 0
      ·rw [if_pos c7] at H
       have c7b0:decide (t934 < 0)=true:=decide_eq_true c7
       clear c7
       obtain rfl:=Option.some.inj H
       have p933:0≤(x5_1:Int):=of_decide_eq_true (by first|(with_reducible assumption)|assumption)
       have q933:x5_1 < (l0.length:Int):=of_decide_eq_true (by first|(with_reducible assumption)|assumption)
       obtain ⟨ad933,A933_0,c933_0,e933,hx933_0,hl933_0,hi933_0⟩:=at_L7 HR0.out x5_1 p933 q933
       cases e933
       have HR933_0:=aK hi933_0
       have HC933_0:=aK hl933_0
       clear hi933_0 hl933_0
       replace p933:=eq_true p933
       replace q933:=eq_true q933
       go_wp2_with (first|((with_reducible refine qt_ (f:=114) rfl ?_);refine goesL_ (some 23) rfl rfl Try.func114 (by kernel_rfl) rfl #[.slice A933_0 (rd_L7 l0 x5_1).length c933_0,.int .i64 x1_1] rfl (by (try simp only [List.map_toArray,List.map_cons,List.map_nil]);first|done|rfl|(simp only [List.length_drop,List.length_take];rfl)) ?_;(with_reducible refine (qc3_.calls _ _ (rd_L7 l0 x5_1) x1_1 t934 _ ?side1 ?side2 A6.out).mono ?_);(case side1=>repeat (first|exact HR933_0.out|(with_reducible refine Kd.qs2_ ?_ _)|(with_reducible refine Kd.qr2_ ?_ _)|(with_reducible refine Kd.C_drew ?_)));(case side2=>exact HC933_0.out);rintro e w' ⟨rfl,⟨nd,rfl⟩⟩;refine ⟨_,rfl,?_⟩))
       go_ret
       exact ⟨by first|rfl|(simp;done)|(simp [*];done)|(simp [Go.Proofs.YtaiefdhenikiiaaZ.bne_nil];done),by repeat (first|exact Drawn0.refl _|apply Drawn0.step)⟩
      ·rw [if_neg c7] at H
       have c7b0:decide (t934 < 0)=false:=decide_eq_false c7
       clear c7
       have H':=aK H
       clear H
       have p933:0≤(x5_1:Int):=of_decide_eq_true (by first|(with_reducible assumption)|assumption)
       have q933:x5_1 < (l0.length:Int):=of_decide_eq_true (by first|(with_reducible assumption)|assumption)
       obtain ⟨ad933,A933_0,c933_0,e933,hx933_0,hl933_0,hi933_0⟩:=at_L7 HR0.out x5_1 p933 q933
       cases e933
       have HR933_0:=aK hi933_0
       have HC933_0:=aK hl933_0
       clear hi933_0 hl933_0
       replace p933:=eq_true p933
       replace q933:=eq_true q933
       go_wp2_with (first|((with_reducible refine qt_ (f:=114) rfl ?_);refine goesL_ (some 23) rfl rfl Try.func114 (by kernel_rfl) rfl #[.slice A933_0 (rd_L7 l0 x5_1).length c933_0,.int .i64 x1_1] rfl (by (try simp only [List.map_toArray,List.map_cons,List.map_nil]);first|done|rfl|(simp only [List.length_drop,List.length_take];rfl)) ?_;(with_reducible refine (qc3_.calls _ _ (rd_L7 l0 x5_1) x1_1 t934 _ ?side1 ?side2 A6.out).mono ?_);(case side1=>repeat (first|exact HR933_0.out|(with_reducible refine Kd.qs2_ ?_ _)|(with_reducible refine Kd.qr2_ ?_ _)|(with_reducible refine Kd.C_drew ?_)));(case side2=>exact HC933_0.out);rintro e w' ⟨rfl,⟨nd,rfl⟩⟩;refine ⟨_,rfl,?_⟩))
       go_roundg k1
       case measure=>have:=HK1.out;omega
       case rel=>exact ⟨(t934),(wrap64 (x5_1+1)),(by first|rfl|(simp;done)|(simp [*];done)),(by first|rfl|(simp;done)|(simp [*];done)),H',⟨by have:=HK1.out;omega⟩,by repeat (first|exact Drawn0.refl _|apply Drawn0.step)⟩
     ·rw [if_neg c5] at H
      exact absurd H (by simp)
    ·rw [if_neg c4] at H
     have c4b0:decide (x5_1 < (l0.length:Int))=false:=decide_eq_false c4
     clear c4
     obtain rfl:=Option.some.inj H
     go_wp2
     go_ret
     exact ⟨by first|rfl|(simp;done)|(simp [*];done)|(simp [Go.Proofs.YtaiefdhenikiiaaZ.bne_nil];done),by repeat (first|exact Drawn0.refl _|apply Drawn0.step)⟩
end Go.Proofs.Ytaiefdhenikiiaa.Base
namespace Go.Proofs.Ytaiefdhenikiiaa.Base
open Go.RowKit Go.Proofs.YtaiefdhenikiiaaW.PrintWords Go.Proofs.YtaiefdhenikiiaaW.PrintLast Go.Proofs.YtaiefdhenikiiaaW.PrintMore
attribute [local go_sem] max2_int qq1_ max_two min_two max_three min_three max_four min_four Go.Proofs.YtaiefdhenikiiaaZ.qu_   -- for this text's walks alone
set_option linter.unusedVariables false
set_option linter.unusedSimpArgs false
def qk1_.l0:Nat→List Int→List Int→Int→Option (List Int)
 | 0,_,_,_=>none
 | k+1,x0,x3,x4=>if x4 < (x0.length:Int) then (if 0≤x4 then (if x4 < (x3.length:Int) then (qk1_.l0 k x0 (x3.set (x4:Int).toNat (rd x0 x4)) (wrap64 (x4+1))) else (none)) else (none)) else (some x3)
def qk1_.f (k:Nat) (l0:List Int):Option (List Int):=if 0≤(l0.length:Int) then (if ((l0.length:Int):Int).toNat≤35184372088832 then (qk1_.l0 k l0 (List.replicate ((l0.length:Int):Int).toNat 0) 0) else (none)) else (none)
theorem qk1_.mono_l:∀ k,(∀ y0 y1 y2,LeO (qk1_.l0 k y0 y1 y2) (qk1_.l0 (k+1) y0 y1 y2))
 | 0=>fun _ _ _ r h=>by simp [qk1_.l0] at h
 | k+1=>by
  have ih0:=qk1_.mono_l k
  ·intro y0 y1 y2
   unfold qk1_.l0
   repeat' first
   | (with_reducible exact ih0 _ _ _)
   | (with_reducible exact LeO.refl _)
   | (with_reducible exact LeO.none _)
   | (with_reducible refine LeO.ite ?_ ?_)
   | (with_reducible refine LeO.bind ?_ (fun _=>?_))
   | exact ih0 _ _ _
   | exact LeO.none _
   | refine LeO.ite ?_ ?_
   | refine LeO.bind ?_ (fun _=>?_)
theorem qk1_.mono:∀ a0 k,LeO (qk1_.f k a0) (qk1_.f (k+1) a0):=by
 intro a0 k
 have ih0:=qk1_.mono_l k
 unfold qk1_.f
 repeat' first
   | (with_reducible exact ih0 _ _ _)
   | (with_reducible exact LeO.refl _)
   | (with_reducible exact LeO.none _)
   | (with_reducible refine LeO.ite ?_ ?_)
   | (with_reducible refine LeO.bind ?_ (fun _=>?_))
   | exact ih0 _ _ _
   | exact LeO.none _
   | refine LeO.ite ?_ ?_
   | refine LeO.bind ?_ (fun _=>?_)
set_option maxHeartbeats 8000000 in
set_option maxRecDepth 100000 in
theorem qk1_.calls (k:Nat) (A0:Option Addr) (c0:Nat) (l0:List Int) (r:List Int) (w:World) (hr0:Kd.C (Kd.int .i64) w A0 l0.length l0) (hc0:l0.length≤c0) (h:qk1_.f k l0=some r) :
  Calls Try.prog 47 #[.slice A0 l0.length c0] w fun e w'=>∃ v0_:Value,e=.returned (v0_)∧Kd.R (Kd.int .i64) 2 w' w.heap.size (fun _=>True) v0_ r∧Below w.heap.size w w':=by
 have HR0:=aK hr0
 have HC0:=aK hc0
 clear hr0 hc0
 have HB:=aK (Below.refl w.heap.size w)
 have H:(if 0≤(l0.length:Int) then (if ((l0.length:Int):Int).toNat≤35184372088832 then (qk1_.l0 k l0 (List.replicate ((l0.length:Int):Int).toNat 0) 0) else (none)) else (none))=some r:=h
 clear h
 by_cases c2:0≤(l0.length:Int)
 ·rw [if_pos c2] at H
  have c2b0:=eq_true c2
  have c2b1:decide (0≤(l0.length:Int))=true:=decide_eq_true c2
  clear c2
  by_cases c3:((l0.length:Int):Int).toNat≤35184372088832
  ·rw [if_pos c3] at H
   have c3b0:=eq_true c3
   have c3b1:decide (((l0.length:Int):Int).toNat≤35184372088832)=true:=decide_eq_true c3
   clear c3
   obtain ⟨y915,hy915⟩:∃ y_:List Int,y_=(List.replicate ((l0.length:Int):Int).toNat 0):=⟨_,rfl⟩
   replace H:(qk1_.l0 k l0 y915 0)=some r:=by first|(rw [hy915];with_reducible exact H)|(have H2_:=(Option.bind_some _ _).symm.trans H;rw [hy915];with_reducible exact H2_)|(have H2_:=(Option.bind_some _ _).symm.trans H;with_reducible exact H2_)|with_reducible exact H|(rw [hy915];exact H)|exact H
   have Ny915:=aK hy915
   clear hy915
   have H':=aK H
   clear H
   go_enter Try.func47,Try.ntmps47
   go_wp2_with (first|((with_reducible refine qf1_ (N:=7) rfl ?_);refine Kd.R_make (Kd.int .i64) _ 2 rfl (N:=7) rfl 50 _ _ rfl (l0.length:Int) rfl rfl Try.underlying50 (.int .i64 0) 8 info2 rfl (by decide) (by omega) 0 (ok:=fun _=>True) (okp:=fun _=>True) rfl (fun _ hk=>hk) trivial (of_decide_eq_true (by first|(with_reducible assumption)|assumption)) (Nat.le_trans (Nat.mul_le_mul_right _ (of_decide_eq_true (by first|(with_reducible assumption)|assumption):(l0.length:Int).toNat≤35184372088832)) (by omega)) (Below.refl _ _) (Nat.le_refl _) ?_;intro v916 w4 ho5 hb hg_ hnew_;clear hg_ hnew_;(first|rw [← Ny915.out] at ho5|(simp only [Int.reduceToNat] at ho5;rw [← Ny915.out] at ho5));have n0_:=aK (Kd.qi2_ ho5 (qk_ (by repeat (first|(with_reducible first|exact HB.out|apply qb_|apply qa_|apply qc_)|exact HB.out))));have n1_:=aK (qe_ (by repeat (first|(with_reducible first|exact HB.out|apply qb_|apply qa_|apply qc_)|exact HB.out)) hb);clear HB;have HO917:=n0_;have HB:=n1_;clear n0_ n1_;clear hb ho5))
   go_loopg [4] k (fun kq v4 w'=>∃ (x3_1:List Int) (x4_1:Int),v4=.int .i64 x4_1∧Aside0 (qk1_.l0 kq l0 x3_1 x4_1=some r)∧Aside0 (kq≤k)∧Aside0 (Kd.R (Kd.int .i64) 2 w' w.heap.size (fun _=>True) v916 x3_1)∧Aside0 (Below w.heap.size w w'))
   case atStart=>exact ⟨(y915),(0),(by first|rfl|(simp;done)|(simp [*];done)),H',⟨Nat.le_refl _⟩,⟨by (with_reducible repeat (first|apply Kd.qc1_|apply Kd.qm1_|apply Kd.R_drew));exact HO917.out⟩,⟨by repeat (first|(with_reducible first|exact HB.out|apply qb_|apply qa_|apply qc_)|exact HB.out)⟩⟩
   case round =>
    clear H'
    try clear c2
    try clear c2b0
    try clear c2b1
    try clear p2
    try clear c3
    try clear c3b0
    try clear c3b1
    try clear c4
    obtain ⟨x3_1,x4_1,rfl,HA,HK1,HO_3,HB⟩:=hrel
    cases gk with
    | zero=>exact absurd HA.out (by simp [qk1_.l0])
    | succ k1 =>
     have H:=HA.out
     clear HA
     simp only [qk1_.l0] at H
     by_cases c6:x4_1 < (l0.length:Int)
     ·rw [if_pos c6] at H
      have c6b0:decide (x4_1 < (l0.length:Int))=true:=decide_eq_true c6
      clear c6
      by_cases c7:0≤x4_1
      ·rw [if_pos c7] at H
       have c7b0:decide (0≤x4_1)=true:=decide_eq_true c7
       clear c7
       by_cases c8:x4_1 < (x3_1.length:Int)
       ·rw [if_pos c8] at H
        have c8b0:decide (x4_1 < (x3_1.length:Int))=true:=decide_eq_true c8
        clear c8
        obtain ⟨y919,hy919⟩:∃ y_:List Int,y_=(x3_1.set (x4_1:Int).toNat (rd l0 x4_1)):=⟨_,rfl⟩
        replace H:(qk1_.l0 k1 l0 y919 (wrap64 (x4_1+1)))=some r:=by first|(rw [hy919];with_reducible exact H)|(have H2_:=(Option.bind_some _ _).symm.trans H;rw [hy919];with_reducible exact H2_)|(have H2_:=(Option.bind_some _ _).symm.trans H;with_reducible exact H2_)|with_reducible exact H|(rw [hy919];exact H)|exact H
        have Ny919:=aK hy919
        clear hy919
        have H':=aK H
        clear H
        have p918:0≤(x4_1:Int):=of_decide_eq_true (by first|(with_reducible assumption)|assumption)
        have q918:x4_1 < (l0.length:Int):=of_decide_eq_true (by first|(with_reducible assumption)|assumption)
        obtain ⟨ad918,e918,hx918_0⟩:=Kd.at_int HR0.out x4_1 p918 q918
        cases e918
        replace hx918_0:=(HB.out.cell (World.block_lt_of_cell? w _ hx918_0)).trans hx918_0
        replace p918:=eq_true p918
        replace q918:=eq_true q918
        have p9:0≤(x4_1:Int):=of_decide_eq_true (by first|(with_reducible assumption)|assumption)
        have q9:(x4_1:Int) < ((x3_1.length:Int):Int):=of_decide_eq_true (by first|(with_reducible assumption)|assumption)
        obtain ⟨go9,co9,eo9,gb9,gl9,cl9,HG9⟩:=Kd.R_form HO_3.out (by omega)
        (first|cases eo9|(injection eo9 with ea_ en_ ec_;(first|subst ea_|(injection ea_ with ea_;subst ea_));subst ec_;clear en_))
        have GB9:=aK gb9
        have GG9:=aK HG9
        clear gb9 gl9 HG9
        obtain ⟨hx9_0,hf9_0⟩:=Kd.R_celln 0 HO_3.out (x4_1:Int) p9 q9
        replace p9:=eq_true p9
        replace q9:=eq_true q9
        have HP10:=Kd.R_putg HO_3.out (x4_1:Int) (rd l0 x4_1)
        go_wp2_with (first|((with_reducible refine gate_store (t:=2) (p:=20) rfl ?_);refine store_event (t:=2) (p:=20) (v:=?vo_w11) (w1:=(wr.setCell ⟨go9,(x4_1:Int).toNat,none⟩ (.int .i64 (rd l0 x4_1)))) ?hg ?ho ?hn ?hr ?_;(case ho=>rfl);(case hg=>rfl);(case hn=>rfl);(case hr=>first|(go_simp;done)|(go_simp;rfl));intro w11 hw;have hg:wr.grownBy w11 (some go9):=(by rw [hw];exact HP10.2);have hp_:Kd.R (Kd.int .i64) 2 w11 w.heap.size (fun _=>True) (.slice (some ⟨go9,0,none⟩) x3_1.length co9) y919:=(by rw [hw,Ny919.out];exact HP10.1);clear HP10;have n0_:=aK (hp_);have n1_:=aK ((by rw [hw];exact qh_ (HB.out) GB9.out:Below w.heap.size w w11));clear HO_3;clear HB;have HO_3:=n0_;have HB:=n1_;clear n0_ n1_;clear hg hw hp_))
        go_roundg k1
        case measure=>have:=HK1.out;omega
        case rel=>exact ⟨(y919),(wrap64 (x4_1+1)),(by first|rfl|(simp;done)|(simp [*];done)),H',⟨by have:=HK1.out;omega⟩,⟨by (with_reducible repeat (first|apply Kd.qc1_|apply Kd.qm1_|apply Kd.R_drew));exact HO_3.out⟩,⟨by repeat (first|(with_reducible first|exact HB.out|apply qb_|apply qa_|apply qc_)|exact HB.out)⟩⟩
       ·rw [if_neg c8] at H
        exact absurd H (by simp)
      ·rw [if_neg c7] at H
       exact absurd H (by simp)
     ·rw [if_neg c6] at H
      have c6b0:decide (x4_1 < (l0.length:Int))=false:=decide_eq_false c6
      clear c6
      obtain rfl:=Option.some.inj H
      go_wp2
      go_ret
      exact ⟨_,by first|rfl|(simp [qn_,qm_] <;> rfl)|(simp [*,qn_,qm_] <;> rfl),by (with_reducible repeat (first|apply Kd.qc1_|apply Kd.qm1_|apply Kd.R_drew));exact HO_3.out,by repeat (first|(with_reducible first|exact HB.out|apply qb_|apply qa_|apply qc_)|exact HB.out)⟩
  ·rw [if_neg c3] at H
   exact absurd H (by simp)
 ·rw [if_neg c2] at H
  exact absurd H (by simp)
end Go.Proofs.Ytaiefdhenikiiaa.Base
namespace Go.Proofs.Ytaiefdhenikiiaa.Base
open Go.RowKit Go.Proofs.YtaiefdhenikiiaaW.PrintWords Go.Proofs.YtaiefdhenikiiaaW.PrintLast Go.Proofs.YtaiefdhenikiiaaW.PrintMore
attribute [local go_sem] max2_int qq1_ max_two min_two max_three min_three max_four min_four Go.Proofs.YtaiefdhenikiiaaZ.qu_   -- for this text's walks alone
set_option linter.unusedVariables false
set_option linter.unusedSimpArgs false
def qw_.l0:Nat→List (List Int)→List (List Int)→Int→Option ((List (List Int)))
 | 0,_,_,_=>none
 | k+1,x0,x3,x4=>if x4 < (x0.length:Int) then (if 0≤x4 then ((qk1_.f k (rd_L7 x0 x4)).bind fun t970=>(if x4 < (x3.length:Int) then (qw_.l0 k x0 (x3.set (x4:Int).toNat t970) (wrap64 (x4+1))) else (none))) else (none)) else (some x3)
def qw_.f (k:Nat) (l0:List (List Int)):Option ((List (List Int))):=if 0≤(l0.length:Int) then (if ((l0.length:Int):Int).toNat≤11728124029610 then (qw_.l0 k l0 (List.replicate ((l0.length:Int):Int).toNat []) 0) else (none)) else (none)
theorem qw_.mono_l:∀ k,(∀ y0 y1 y2,LeO (qw_.l0 k y0 y1 y2) (qw_.l0 (k+1) y0 y1 y2))
 | 0=>fun _ _ _ r h=>by simp [qw_.l0] at h
 | k+1=>by
  have ih0:=qw_.mono_l k
  ·intro y0 y1 y2
   unfold qw_.l0
   repeat' first
   | (with_reducible exact ih0 _ _ _)
   | (with_reducible exact qk1_.mono _ _)
   | (with_reducible exact LeO.refl _)
   | (with_reducible exact LeO.none _)
   | (with_reducible refine LeO.ite ?_ ?_)
   | (with_reducible refine LeO.bind ?_ (fun _=>?_))
   | exact ih0 _ _ _
   | exact qk1_.mono _ _
   | exact LeO.none _
   | refine LeO.ite ?_ ?_
   | refine LeO.bind ?_ (fun _=>?_)
theorem qw_.mono:∀ a0 k,LeO (qw_.f k a0) (qw_.f (k+1) a0):=by
 intro a0 k
 have ih0:=qw_.mono_l k
 unfold qw_.f
 repeat' first
   | (with_reducible exact ih0 _ _ _)
   | (with_reducible exact qk1_.mono _ _)
   | (with_reducible exact LeO.refl _)
   | (with_reducible exact LeO.none _)
   | (with_reducible refine LeO.ite ?_ ?_)
   | (with_reducible refine LeO.bind ?_ (fun _=>?_))
   | exact ih0 _ _ _
   | exact qk1_.mono _ _
   | exact LeO.none _
   | refine LeO.ite ?_ ?_
   | refine LeO.bind ?_ (fun _=>?_)
set_option maxHeartbeats 8000000 in
set_option maxRecDepth 100000 in
theorem qw_.calls (k:Nat) (A0:Option Addr) (c0:Nat) (l0:List (List Int)) (r:List (List Int)) (w:World) (hr0:Kd.C (Kd.slice 2 (Kd.int .i64)) w A0 l0.length l0) (hc0:l0.length≤c0) (h:qw_.f k l0=some r) :
  Calls Try.prog 55 #[.slice A0 l0.length c0] w fun e w'=>∃ v0_:Value,e=.returned (v0_)∧Kd.S (Kd.slice 2 (Kd.int .i64)) 50 w' w.heap.size (fun _=>True) v0_ r∧Below w.heap.size w w':=by
 have HR0:=aK hr0
 have HC0:=aK hc0
 clear hr0 hc0
 have HB:=aK (Below.refl w.heap.size w)
 have H:(if 0≤(l0.length:Int) then (if ((l0.length:Int):Int).toNat≤11728124029610 then (qw_.l0 k l0 (List.replicate ((l0.length:Int):Int).toNat []) 0) else (none)) else (none))=some r:=h
 clear h
 by_cases c2:0≤(l0.length:Int)
 ·rw [if_pos c2] at H
  have c2b0:=eq_true c2
  have c2b1:decide (0≤(l0.length:Int))=true:=decide_eq_true c2
  clear c2
  by_cases c3:((l0.length:Int):Int).toNat≤11728124029610
  ·rw [if_pos c3] at H
   have c3b0:=eq_true c3
   have c3b1:decide (((l0.length:Int):Int).toNat≤11728124029610)=true:=decide_eq_true c3
   clear c3
   obtain ⟨y966,hy966⟩:∃ y_:List (List Int),y_=(List.replicate ((l0.length:Int):Int).toNat []):=⟨_,rfl⟩
   replace H:(qw_.l0 k l0 y966 0)=some r:=by first|(rw [hy966];with_reducible exact H)|(have H2_:=(Option.bind_some _ _).symm.trans H;rw [hy966];with_reducible exact H2_)|(have H2_:=(Option.bind_some _ _).symm.trans H;with_reducible exact H2_)|with_reducible exact H|(rw [hy966];exact H)|exact H
   have Ny966:=aK hy966
   clear hy966
   have H':=aK H
   clear H
   go_enter Try.func55,Try.ntmps55
   go_wp2_with (first|((with_reducible refine qf1_ (N:=7) rfl ?_);refine Kd.S_make (Kd.slice 2 (Kd.int .i64)) _ 50 rfl (N:=7) rfl 34 _ _ rfl (l0.length:Int) rfl rfl Try.underlying34 (.slice none 0 0) 24 info50 rfl (by decide) (by omega) [] (ok:=fun _=>True) (okp:=fun _=>True) ⟨_,rfl,Kd.R_nil _ _ _ _ _⟩ (fun _ hk=>hk) trivial (of_decide_eq_true (by first|(with_reducible assumption)|assumption)) (Nat.le_trans (Nat.mul_le_mul_right _ (of_decide_eq_true (by first|(with_reducible assumption)|assumption):(l0.length:Int).toNat≤11728124029610)) (by omega)) (Below.refl _ _) (Nat.le_refl _) ?_;intro v967 w4 ho5 hb hg_ hnew_;clear hg_ hnew_;(first|rw [← Ny966.out] at ho5|(simp only [Int.reduceToNat] at ho5;rw [← Ny966.out] at ho5));have n0_:=aK (Kd.S_lower ho5 (qk_ (by repeat (first|(with_reducible first|exact HB.out|apply qb_|apply qa_|apply qc_)|exact HB.out))));have n1_:=aK (qe_ (by repeat (first|(with_reducible first|exact HB.out|apply qb_|apply qa_|apply qc_)|exact HB.out)) hb);clear HB;have HO968:=n0_;have HB:=n1_;clear n0_ n1_;clear hb ho5))
   go_loopg [4] k (fun kq v4 w'=>∃ (x3_1:List (List Int)) (x4_1:Int),v4=.int .i64 x4_1∧Aside0 (qw_.l0 kq l0 x3_1 x4_1=some r)∧Aside0 (kq≤k)∧Aside0 (Kd.S (Kd.slice 2 (Kd.int .i64)) 50 w' w.heap.size (fun _=>True) v967 x3_1)∧Aside0 (Below w.heap.size w w'))
   case atStart=>exact ⟨(y966),(0),(by first|rfl|(simp;done)|(simp [*];done)),H',⟨Nat.le_refl _⟩,⟨by (with_reducible repeat (first|apply Kd.S_alloc|apply Kd.S_drewN|apply Kd.S_drew));exact HO968.out⟩,⟨by repeat (first|(with_reducible first|exact HB.out|apply qb_|apply qa_|apply qc_)|exact HB.out)⟩⟩
   case round =>
    clear H'
    try clear c2
    try clear c2b0
    try clear c2b1
    try clear p2
    try clear c3
    try clear c3b0
    try clear c3b1
    try clear c5
    obtain ⟨x3_1,x4_1,rfl,HA,HK1,HO_3,HB⟩:=hrel
    cases gk with
    | zero=>exact absurd HA.out (by simp [qw_.l0])
    | succ k1 =>
     have H:=HA.out
     clear HA
     simp only [qw_.l0] at H
     by_cases c6:x4_1 < (l0.length:Int)
     ·rw [if_pos c6] at H
      have c6b0:decide (x4_1 < (l0.length:Int))=true:=decide_eq_true c6
      clear c6
      by_cases c7:0≤x4_1
      ·rw [if_pos c7] at H
       have c7b0:decide (0≤x4_1)=true:=decide_eq_true c7
       clear c7
       replace H:=Option.bind_eq_some_iff.mp H
       obtain ⟨t970,A80,H⟩:=H
       replace H:(if x4_1 < (x3_1.length:Int) then (qw_.l0 k1 l0 (x3_1.set (x4_1:Int).toNat t970) (wrap64 (x4_1+1))) else (none))=some r:=H
       have A8:=aK A80
       clear A80
       by_cases c9:x4_1 < (x3_1.length:Int)
       ·rw [if_pos c9] at H
        have c9b0:decide (x4_1 < (x3_1.length:Int))=true:=decide_eq_true c9
        clear c9
        obtain ⟨y973,hy973⟩:∃ y_:List (List Int),y_=(x3_1.set (x4_1:Int).toNat t970):=⟨_,rfl⟩
        replace H:(qw_.l0 k1 l0 y973 (wrap64 (x4_1+1)))=some r:=by first|(rw [hy973];with_reducible exact H)|(have H2_:=(Option.bind_some _ _).symm.trans H;rw [hy973];with_reducible exact H2_)|(have H2_:=(Option.bind_some _ _).symm.trans H;with_reducible exact H2_)|with_reducible exact H|(rw [hy973];exact H)|exact H
        have Ny973:=aK hy973
        clear hy973
        have H':=aK H
        clear H
        have p969:0≤(x4_1:Int):=of_decide_eq_true (by first|(with_reducible assumption)|assumption)
        have q969:x4_1 < (l0.length:Int):=of_decide_eq_true (by first|(with_reducible assumption)|assumption)
        obtain ⟨ad969,A969_0,c969_0,e969,hx969_0,hl969_0,hi969_0⟩:=at_L7 HR0.out x4_1 p969 q969
        cases e969
        replace hx969_0:=(HB.out.cell (World.block_lt_of_cell? w _ hx969_0)).trans hx969_0
        have HR969_0:=aK hi969_0
        have HC969_0:=aK hl969_0
        clear hi969_0 hl969_0
        replace p969:=eq_true p969
        replace q969:=eq_true q969
        go_wp2_with (first|((with_reducible refine qt_ (f:=47) rfl ?_);refine goesL_ (some 20) rfl rfl Try.func47 (by kernel_rfl) rfl #[.slice A969_0 (rd_L7 l0 x4_1).length c969_0] rfl (by (try simp only [List.map_toArray,List.map_cons,List.map_nil]);first|done|rfl|(simp only [List.length_drop,List.length_take];rfl)) ?_;(with_reducible refine (qk1_.calls k1 _ _ (rd_L7 l0 x4_1) t970 _ ?side1 ?side2 A8.out).mono ?_);(case side1=>repeat (first|exact (Kd.qw1_ HR969_0.out HB.out)|(with_reducible refine Kd.qs2_ ?_ _)|(with_reducible refine Kd.qr2_ ?_ _)|(with_reducible refine Kd.C_drew ?_)));(case side2=>exact HC969_0.out);rintro e w11 ⟨v971,rfl,ho0,hb⟩;refine ⟨_,rfl,?_⟩;have n0_:=aK (Kd.S_elder' (by (with_reducible repeat (first|apply Kd.S_alloc|apply Kd.S_drewN|apply Kd.S_drew));exact HO_3.out) (Kd.R_base ho0) hb);have n1_:=aK (Kd.qi2_ ho0 (qk_ (by repeat (first|(with_reducible first|exact HB.out|apply qb_|apply qa_|apply qc_)|exact HB.out))));have n2_:=aK (qe_ (by repeat (first|(with_reducible first|exact HB.out|apply qb_|apply qa_|apply qc_)|exact HB.out)) hb);clear HO_3;clear HB;have HO_3:=n0_;have HO972:=n1_;have HB:=n2_;clear n0_ n1_ n2_;(try clear hb);(try clear hb2);(try clear hk);(try clear hi);(try clear ho0);have p10:0≤(x4_1:Int):=of_decide_eq_true (by first|(with_reducible assumption)|assumption);have q10:(x4_1:Int) < ((x3_1.length:Int):Int):=of_decide_eq_true (by first|(with_reducible assumption)|assumption);obtain ⟨go10,co10,eo10,gb10,gl10,cl10,HG10⟩:=Kd.S_form HO_3.out (by omega);(first|cases eo10|(injection eo10 with ea_ en_ ec_;(first|subst ea_|(injection ea_ with ea_;subst ea_));subst ec_;clear en_));have GB10:=aK gb10;have GG10:=aK HG10;clear gb10 gl10 HG10;obtain ⟨_,ce10,hcl10,hM10,hcc10,hfr10,_,_⟩:=Kd.S_elem HO_3.out [] (x4_1:Int) p10 q10;obtain ⟨ve10_0,rfl,ge10_0⟩:=hM10;have hx10_0:=hcc10 0 _ rfl;have hf10_0:=hfr10 0;(try simp only [show ((Kd.slice 2 (Kd.int .i64))).sz=1 from rfl,Nat.mul_one,Nat.add_zero] at hx10_0);(try simp only [show ((Kd.slice 2 (Kd.int .i64))).sz=1 from rfl,Nat.mul_one,Nat.add_zero] at hf10_0);(try clear hcl10);(try clear hcc10);(try clear hfr10);(try clear hM10);replace p10:=eq_true p10;replace q10:=eq_true q10;have n_:=aK (Kd.S_mono (ok':=(fun k_=>some k_ ≠ (v971:Value).ownBlock)) HO_3.out (fun k_ hk=>hk.2));clear HO_3;have HO_3:=n_;clear n_;have HX12:=aK (show Kd.S (Kd.slice 2 (Kd.int .i64)) 50 w11 w.heap.size (fun k_=>((fun _=>True)) k_∧¬ ((fun k_=>some k_=(v971:Value).ownBlock)) k_) (.slice (some ⟨go10,0,none⟩) x3_1.length co10) x3_1 from (by (with_reducible repeat (first|apply Kd.S_alloc|apply Kd.S_drewN|apply Kd.S_drew));exact Kd.S_mono HO_3.out (fun k_ hk=>⟨trivial,fun e_=>hk e_⟩)));obtain ⟨oki12,ce12,hcl12,hM12,hcc12,hfr12,hoki12,hH12⟩:=Kd.S_elem HX12.out [] (x4_1:Int) (of_decide_eq_true (by first|(with_reducible assumption)|assumption)) (by have h_:(x4_1:Int) < ((x3_1.length:Int):Int):=of_decide_eq_true (by first|(with_reducible assumption)|assumption);first|exact h_|(have e_:=(Kd.S_reads' HO_3.out).1;omega)|simpa using h_);obtain ⟨ve12_0,rfl,ge12_0⟩:=hM12;have HP12:=Kd.S_seg hH12 (of_decide_eq_true (by first|(with_reducible assumption)|assumption)) (by have h_:(x4_1:Int) < ((x3_1.length:Int):Int):=of_decide_eq_true (by first|(with_reducible assumption)|assumption);first|exact h_|(have e_:=(Kd.S_reads' HO_3.out).1;omega)|simpa using h_) (seg:=[v971]) (j:=0) (show 1≤1 from by decide) (x':=t970) (Kd.M_row (Kd.R_mono (Kd.R_tight rfl (Kd.R_mono (ok':=fun k_=>((fun _=>True)) k_∧k_ ≠ go10) (Kd.R_apart' (HO972.out) (Kd.S_typed HO_3.out) (by decide)) (fun k_ hk=>⟨trivial,fun e_=>(hk.2) (by rw [e_];rfl)⟩))) (fun _ h_=>Or.inr (h_)))) (fun _ hk=>hk) (fun k_ hk_=>((Kd.R_mono (ok':=fun k_=>((fun _=>True)) k_∧k_ ≠ go10) (Kd.R_apart' (HO972.out) (Kd.S_typed HO_3.out) (by decide)) (fun k_ hk=>⟨trivial,fun e_=>(hk.2) (by rw [e_];rfl)⟩))).1 k_ hk_.symm);have hx12_0:=hcc12 0 _ rfl;(try simp only [show ((Kd.slice 2 (Kd.int .i64))).sz=1 from rfl,Nat.mul_one,Nat.add_zero] at hx12_0);have hf12_0:=hfr12 0;(try simp only [show ((Kd.slice 2 (Kd.int .i64))).sz=1 from rfl,Nat.mul_one,Nat.add_zero] at hf12_0);(try clear hcl12);(try clear hcc12);(try clear hfr12);(try clear hM12);(try clear hoki12);(try clear hH12);(try simp only [show ((Kd.slice 2 (Kd.int .i64))).sz=1 from rfl,Nat.mul_one,Nat.add_zero] at HP12))|((with_reducible refine gate_store (t:=50) (p:=21) rfl ?_);refine store_event (t:=50) (p:=21) (v:=?vo_w13) (w1:=(w11.setCell ⟨go10,(x4_1:Int).toNat,none⟩ (v971))) ?hg ?ho ?hn ?hr ?_;(case ho=>rfl);(case hg=>rfl);(case hn=>rfl);(case hr=>first|(go_simp;done)|(go_simp;rfl)|(obtain ⟨A_,c_,e_⟩:=Kd.qa2_ HO972.out;(try rw [e_]);go_simp;done)|(obtain ⟨A_,c_,e_⟩:=Kd.S_slice HO972.out;(try rw [e_]);go_simp;done));intro w13 hw;have hg:w11.grownBy w13 (some go10):=(by rw [hw];exact HP12.2);have hp_:Kd.S (Kd.slice 2 (Kd.int .i64)) 50 w13 w.heap.size (fun _=>True) (.slice (some ⟨go10,0,none⟩) x3_1.length co10) y973:=(by rw [hw,Ny973.out];exact HP12.1);clear HP12;have n0_:=aK (hp_);have n1_:=aK ((by rw [hw];exact qh_ (HB.out) GB10.out:Below w.heap.size w w13));clear HO_3;clear HB;clear HO972;have HO_3:=n0_;have HB:=n1_;clear n0_ n1_;clear hg hw hp_))
        go_roundg k1
        case measure=>have:=HK1.out;omega
        case rel=>exact ⟨(y973),(wrap64 (x4_1+1)),(by first|rfl|(simp;done)|(simp [*];done)),H',⟨by have:=HK1.out;omega⟩,⟨by (with_reducible repeat (first|apply Kd.S_alloc|apply Kd.S_drewN|apply Kd.S_drew));exact HO_3.out⟩,⟨by repeat (first|(with_reducible first|exact HB.out|apply qb_|apply qa_|apply qc_)|exact HB.out)⟩⟩
       ·rw [if_neg c9] at H
        exact absurd H (by simp)
      ·rw [if_neg c7] at H
       exact absurd H (by simp)
     ·rw [if_neg c6] at H
      have c6b0:decide (x4_1 < (l0.length:Int))=false:=decide_eq_false c6
      clear c6
      obtain rfl:=Option.some.inj H
      go_wp2
      go_ret
      exact ⟨_,by first|rfl|(simp [qn_,qm_] <;> rfl)|(simp [*,qn_,qm_] <;> rfl),by (with_reducible repeat (first|apply Kd.S_alloc|apply Kd.S_drewN|apply Kd.S_drew));exact HO_3.out,by repeat (first|(with_reducible first|exact HB.out|apply qb_|apply qa_|apply qc_)|exact HB.out)⟩
  ·rw [if_neg c3] at H
   exact absurd H (by simp)
 ·rw [if_neg c2] at H
  exact absurd H (by simp)
end Go.Proofs.Ytaiefdhenikiiaa.Base
namespace Go.Proofs.Ytaiefdhenikiiaa.Base
open Go.RowKit Go.Proofs.YtaiefdhenikiiaaW.PrintWords Go.Proofs.YtaiefdhenikiiaaW.PrintLast Go.Proofs.YtaiefdhenikiiaaW.PrintMore
attribute [local go_sem] max2_int qq1_ max_two min_two max_three min_three max_four min_four Go.Proofs.YtaiefdhenikiiaaZ.qu_   -- for this text's walks alone
set_option linter.unusedVariables false
set_option linter.unusedSimpArgs false
def qd1_.l0:Nat→List Int→List Int→Int→Option (Bool)
 | 0,_,_,_=>none
 | k+1,x0,x1,x5=>if x5 < (x0.length:Int) then (if 0≤x5 then (if x5 < (x1.length:Int) then (if (rd x0 x5)=(rd x1 x5) then (qd1_.l0 k x0 x1 (wrap64 (x5+1))) else (some false)) else (none)) else (none)) else (some true)
def qd1_.f (k:Nat) (l0:List Int) (l1:List Int):Option (Bool):=if (l0.length:Int)=(l1.length:Int) then (qd1_.l0 k l0 l1 0) else (some false)
theorem qd1_.mono_l:∀ k,(∀ y0 y1 y2,LeO (qd1_.l0 k y0 y1 y2) (qd1_.l0 (k+1) y0 y1 y2))
 | 0=>fun _ _ _ r h=>by simp [qd1_.l0] at h
 | k+1=>by
  have ih0:=qd1_.mono_l k
  ·intro y0 y1 y2
   unfold qd1_.l0
   repeat' first
   | (with_reducible exact ih0 _ _ _)
   | (with_reducible exact LeO.refl _)
   | (with_reducible exact LeO.none _)
   | (with_reducible refine LeO.ite ?_ ?_)
   | (with_reducible refine LeO.bind ?_ (fun _=>?_))
   | exact ih0 _ _ _
   | exact LeO.none _
   | refine LeO.ite ?_ ?_
   | refine LeO.bind ?_ (fun _=>?_)
theorem qd1_.mono:∀ a0 a1 k,LeO (qd1_.f k a0 a1) (qd1_.f (k+1) a0 a1):=by
 intro a0 a1 k
 have ih0:=qd1_.mono_l k
 unfold qd1_.f
 repeat' first
   | (with_reducible exact ih0 _ _ _)
   | (with_reducible exact LeO.refl _)
   | (with_reducible exact LeO.none _)
   | (with_reducible refine LeO.ite ?_ ?_)
   | (with_reducible refine LeO.bind ?_ (fun _=>?_))
   | exact ih0 _ _ _
   | exact LeO.none _
   | refine LeO.ite ?_ ?_
   | refine LeO.bind ?_ (fun _=>?_)
set_option maxHeartbeats 8000000 in
set_option maxRecDepth 100000 in
theorem qd1_.calls (k:Nat) (A0:Option Addr) (c0:Nat) (l0:List Int) (A1:Option Addr) (c1:Nat) (l1:List Int) (r:Bool) (w:World) (hr0:Kd.C (Kd.int .i64) w A0 l0.length l0) (hc0:l0.length≤c0) (hr1:Kd.C (Kd.int .i64) w A1 l1.length l1) (hc1:l1.length≤c1) (h:qd1_.f k l0 l1=some r) :
  Calls Try.prog 49 #[.slice A0 l0.length c0,.slice A1 l1.length c1] w fun e w'=>e=.returned (.bool r)∧Drawn0 w w':=by
 have HR0:=aK hr0
 have HC0:=aK hc0
 clear hr0 hc0
 have HR1:=aK hr1
 have HC1:=aK hc1
 clear hr1 hc1
 have H:(if (l0.length:Int)=(l1.length:Int) then (qd1_.l0 k l0 l1 0) else (some false))=some r:=h
 clear h
 by_cases c3:(l0.length:Int)=(l1.length:Int)
 ·rw [if_pos c3] at H
  have c3b0:((l0.length:Int) == (l1.length:Int))=true:=beq_iff_eq.mpr c3
  have c3b1:((l0.length:Int) != (l1.length:Int))=false:=bne_eq_false_iff_eq.mpr c3
  have c3b2:(l0.length == l1.length)=true:=by first|simpa using c3|(simp at c3 ⊢;omega)
  clear c3
  have H':=aK H
  clear H
  go_enter Try.func49,Try.ntmps49
  go_wp2
  repeat (go_quiet (fail);try go_wp2)
  go_loopg [5] k (fun kq v5 w'=>∃ (x5_1:Int),v5=.int .i64 x5_1∧Aside0 (qd1_.l0 kq l0 l1 x5_1=some r)∧Aside0 (kq≤k)∧Drawn0 w w')
  case atStart=>exact ⟨(0),(by first|rfl|(simp;done)|(simp [*];done)),H',⟨Nat.le_refl _⟩,by repeat (first|exact Drawn0.refl _|apply Drawn0.step)⟩
  case round =>
   clear H'
   try clear c1
   try clear p2
   try clear c3
   try clear c3b0
   try clear c3b1
   try clear c3b2
   obtain ⟨x5_1,rfl,HA,HK1,⟨m1,rfl⟩⟩:=hrel
   cases gk with
   | zero=>exact absurd HA.out (by simp [qd1_.l0])
   | succ k1 =>
    have H:=HA.out
    clear HA
    simp only [qd1_.l0] at H
    by_cases c4:x5_1 < (l0.length:Int)
    ·rw [if_pos c4] at H
     have c4b0:decide (x5_1 < (l0.length:Int))=true:=decide_eq_true c4
     clear c4
     by_cases c5:0≤x5_1
     ·rw [if_pos c5] at H
      have c5b0:decide (0≤x5_1)=true:=decide_eq_true c5
      clear c5
      by_cases c6:x5_1 < (l1.length:Int)
      ·rw [if_pos c6] at H
       have c6b0:decide (x5_1 < (l1.length:Int))=true:=decide_eq_true c6
       clear c6
       by_cases c7:(rd l0 x5_1)=(rd l1 x5_1)
       ·rw [if_pos c7] at H
        have c7b0:((rd l0 x5_1) == (rd l1 x5_1))=true:=beq_iff_eq.mpr c7
        have c7b1:((rd l0 x5_1) != (rd l1 x5_1))=false:=bne_eq_false_iff_eq.mpr c7
        clear c7
        have H':=aK H
        clear H
        have p252:0≤(x5_1:Int):=of_decide_eq_true (by first|(with_reducible assumption)|assumption)
        have q252:x5_1 < (l0.length:Int):=of_decide_eq_true (by first|(with_reducible assumption)|assumption)
        obtain ⟨ad252,e252,hx252_0⟩:=Kd.at_int HR0.out x5_1 p252 q252
        cases e252
        replace p252:=eq_true p252
        replace q252:=eq_true q252
        have p253:0≤(x5_1:Int):=of_decide_eq_true (by first|(with_reducible assumption)|assumption)
        have q253:x5_1 < (l1.length:Int):=of_decide_eq_true (by first|(with_reducible assumption)|assumption)
        obtain ⟨ad253,e253,hx253_0⟩:=Kd.at_int HR1.out x5_1 p253 q253
        cases e253
        replace p253:=eq_true p253
        replace q253:=eq_true q253
        go_wp2
        repeat (go_quiet (fail);try go_wp2)
        go_roundg k1
        case measure=>have:=HK1.out;omega
        case rel=>exact ⟨(wrap64 (x5_1+1)),(by first|rfl|(simp;done)|(simp [*];done)),H',⟨by have:=HK1.out;omega⟩,by repeat (first|exact Drawn0.refl _|apply Drawn0.step)⟩
       ·rw [if_neg c7] at H
        have c7b0:((rd l0 x5_1) == (rd l1 x5_1))=false:=beq_eq_false_iff_ne.mpr c7
        have c7b1:((rd l0 x5_1) != (rd l1 x5_1))=true:=bne_iff_ne.mpr c7
        obtain rfl:=Option.some.inj H
        have p252:0≤(x5_1:Int):=of_decide_eq_true (by first|(with_reducible assumption)|assumption)
        have q252:x5_1 < (l0.length:Int):=of_decide_eq_true (by first|(with_reducible assumption)|assumption)
        obtain ⟨ad252,e252,hx252_0⟩:=Kd.at_int HR0.out x5_1 p252 q252
        cases e252
        replace p252:=eq_true p252
        replace q252:=eq_true q252
        have p253:0≤(x5_1:Int):=of_decide_eq_true (by first|(with_reducible assumption)|assumption)
        have q253:x5_1 < (l1.length:Int):=of_decide_eq_true (by first|(with_reducible assumption)|assumption)
        obtain ⟨ad253,e253,hx253_0⟩:=Kd.at_int HR1.out x5_1 p253 q253
        cases e253
        replace p253:=eq_true p253
        replace q253:=eq_true q253
        go_wp2
        repeat (go_quiet (fail);try go_wp2)
        go_ret
        exact ⟨by first|rfl|(simp;done)|(simp [*];done)|(simp [Go.Proofs.YtaiefdhenikiiaaZ.bne_nil];done),by repeat (first|exact Drawn0.refl _|apply Drawn0.step)⟩
      ·rw [if_neg c6] at H
       exact absurd H (by simp)
     ·rw [if_neg c5] at H
      exact absurd H (by simp)
    ·rw [if_neg c4] at H
     have c4b0:decide (x5_1 < (l0.length:Int))=false:=decide_eq_false c4
     clear c4
     obtain rfl:=Option.some.inj H
     go_wp2
     repeat (go_quiet (fail);try go_wp2)
     go_ret
     exact ⟨by first|rfl|(simp;done)|(simp [*];done)|(simp [Go.Proofs.YtaiefdhenikiiaaZ.bne_nil];done),by repeat (first|exact Drawn0.refl _|apply Drawn0.step)⟩
 ·rw [if_neg c3] at H
  have c3b0:((l0.length:Int) == (l1.length:Int))=false:=beq_eq_false_iff_ne.mpr c3
  have c3b1:((l0.length:Int) != (l1.length:Int))=true:=bne_iff_ne.mpr c3
  have c3b2:(l0.length == l1.length)=false:=by first|simpa using c3|(simp at c3 ⊢;omega)
  obtain rfl:=Option.some.inj H
  go_enter Try.func49,Try.ntmps49
  go_wp2
  repeat (go_quiet (fail);try go_wp2)
  go_ret
  exact ⟨by first|rfl|(simp;done)|(simp [*];done)|(simp [Go.Proofs.YtaiefdhenikiiaaZ.bne_nil];done),by repeat (first|exact Drawn0.refl _|apply Drawn0.step)⟩
end Go.Proofs.Ytaiefdhenikiiaa.Base
namespace Go.Proofs.Ytaiefdhenikiiaa.Base
open Go.RowKit Go.Proofs.YtaiefdhenikiiaaW.PrintWords Go.Proofs.YtaiefdhenikiiaaW.PrintLast Go.Proofs.YtaiefdhenikiiaaW.PrintMore
attribute [local go_sem] max2_int qq1_ max_two min_two max_three min_three max_four min_four Go.Proofs.YtaiefdhenikiiaaZ.qu_   -- for this text's walks alone
set_option linter.unusedVariables false
set_option linter.unusedSimpArgs false
def qj1_.l0:Nat→List (List Int)→List (List Int)→Int→Option (Bool)
 | 0,_,_,_=>none
 | k+1,x0,x1,x5=>if x5 < (x0.length:Int) then (if 0≤x5 then (if x5 < (x1.length:Int) then ((qd1_.f k (rd_L7 x0 x5) (rd_L7 x1 x5)).bind fun t256=>(if t256=true then (qj1_.l0 k x0 x1 (wrap64 (x5+1))) else (some false))) else (none)) else (none)) else (some true)
def qj1_.f (k:Nat) (l0:List (List Int)) (l1:List (List Int)):Option (Bool):=if (l0.length:Int)=(l1.length:Int) then (qj1_.l0 k l0 l1 0) else (some false)
theorem qj1_.mono_l:∀ k,(∀ y0 y1 y2,LeO (qj1_.l0 k y0 y1 y2) (qj1_.l0 (k+1) y0 y1 y2))
 | 0=>fun _ _ _ r h=>by simp [qj1_.l0] at h
 | k+1=>by
  have ih0:=qj1_.mono_l k
  ·intro y0 y1 y2
   unfold qj1_.l0
   repeat' first
   | (with_reducible exact ih0 _ _ _)
   | (with_reducible exact qd1_.mono _ _ _)
   | (with_reducible exact LeO.refl _)
   | (with_reducible exact LeO.none _)
   | (with_reducible refine LeO.ite ?_ ?_)
   | (with_reducible refine LeO.bind ?_ (fun _=>?_))
   | exact ih0 _ _ _
   | exact qd1_.mono _ _ _
   | exact LeO.none _
   | refine LeO.ite ?_ ?_
   | refine LeO.bind ?_ (fun _=>?_)
theorem qj1_.mono:∀ a0 a1 k,LeO (qj1_.f k a0 a1) (qj1_.f (k+1) a0 a1):=by
 intro a0 a1 k
 have ih0:=qj1_.mono_l k
 unfold qj1_.f
 repeat' first
   | (with_reducible exact ih0 _ _ _)
   | (with_reducible exact qd1_.mono _ _ _)
   | (with_reducible exact LeO.refl _)
   | (with_reducible exact LeO.none _)
   | (with_reducible refine LeO.ite ?_ ?_)
   | (with_reducible refine LeO.bind ?_ (fun _=>?_))
   | exact ih0 _ _ _
   | exact qd1_.mono _ _ _
   | exact LeO.none _
   | refine LeO.ite ?_ ?_
   | refine LeO.bind ?_ (fun _=>?_)
set_option maxHeartbeats 8000000 in
set_option maxRecDepth 100000 in
theorem qj1_.calls (k:Nat) (A0:Option Addr) (c0:Nat) (l0:List (List Int)) (A1:Option Addr) (c1:Nat) (l1:List (List Int)) (r:Bool) (w:World) (hr0:Kd.C (Kd.slice 2 (Kd.int .i64)) w A0 l0.length l0) (hc0:l0.length≤c0) (hr1:Kd.C (Kd.slice 2 (Kd.int .i64)) w A1 l1.length l1) (hc1:l1.length≤c1) (h:qj1_.f k l0 l1=some r) :
  Calls Try.prog 32 #[.slice A0 l0.length c0,.slice A1 l1.length c1] w fun e w'=>e=.returned (.bool r)∧Drawn0 w w':=by
 have HR0:=aK hr0
 have HC0:=aK hc0
 clear hr0 hc0
 have HR1:=aK hr1
 have HC1:=aK hc1
 clear hr1 hc1
 have H:(if (l0.length:Int)=(l1.length:Int) then (qj1_.l0 k l0 l1 0) else (some false))=some r:=h
 clear h
 by_cases c3:(l0.length:Int)=(l1.length:Int)
 ·rw [if_pos c3] at H
  have c3b0:((l0.length:Int) == (l1.length:Int))=true:=beq_iff_eq.mpr c3
  have c3b1:((l0.length:Int) != (l1.length:Int))=false:=bne_eq_false_iff_eq.mpr c3
  have c3b2:(l0.length == l1.length)=true:=by first|simpa using c3|(simp at c3 ⊢;omega)
  clear c3
  have H':=aK H
  clear H
  go_enter Try.func32,Try.ntmps32
  go_wp2
  repeat (go_quiet (fail);try go_wp2)
  go_loopg [5] k (fun kq v5 w'=>∃ (x5_1:Int),v5=.int .i64 x5_1∧Aside0 (qj1_.l0 kq l0 l1 x5_1=some r)∧Aside0 (kq≤k)∧Drawn0 w w')
  case atStart=>exact ⟨(0),(by first|rfl|(simp;done)|(simp [*];done)),H',⟨Nat.le_refl _⟩,by repeat (first|exact Drawn0.refl _|apply Drawn0.step)⟩
  case round =>
   clear H'
   try clear c1
   try clear p2
   try clear c3
   try clear c3b0
   try clear c3b1
   try clear c3b2
   obtain ⟨x5_1,rfl,HA,HK1,⟨m1,rfl⟩⟩:=hrel
   cases gk with
   | zero=>exact absurd HA.out (by simp [qj1_.l0])
   | succ k1 =>
    have H:=HA.out
    clear HA
    simp only [qj1_.l0] at H
    by_cases c4:x5_1 < (l0.length:Int)
    ·rw [if_pos c4] at H
     have c4b0:decide (x5_1 < (l0.length:Int))=true:=decide_eq_true c4
     clear c4
     by_cases c5:0≤x5_1
     ·rw [if_pos c5] at H
      have c5b0:decide (0≤x5_1)=true:=decide_eq_true c5
      clear c5
      by_cases c6:x5_1 < (l1.length:Int)
      ·rw [if_pos c6] at H
       have c6b0:decide (x5_1 < (l1.length:Int))=true:=decide_eq_true c6
       clear c6
       replace H:=Option.bind_eq_some_iff.mp H
       obtain ⟨t256,A70,H⟩:=H
       replace H:(if t256=true then (qj1_.l0 k1 l0 l1 (wrap64 (x5_1+1))) else (some false))=some r:=H
       have A7:=aK A70
       clear A70
       by_cases c8:t256=true
       ·subst c8
        have H1:(qj1_.l0 k1 l0 l1 (wrap64 (x5_1+1)))=some r:=by rw [if_pos rfl] at H;exact H
        clear H
        have H:=H1
        clear H1
        have H':=aK H
        clear H
        have p254:0≤(x5_1:Int):=of_decide_eq_true (by first|(with_reducible assumption)|assumption)
        have q254:x5_1 < (l0.length:Int):=of_decide_eq_true (by first|(with_reducible assumption)|assumption)
        obtain ⟨ad254,A254_0,c254_0,e254,hx254_0,hl254_0,hi254_0⟩:=at_L7 HR0.out x5_1 p254 q254
        cases e254
        have HR254_0:=aK hi254_0
        have HC254_0:=aK hl254_0
        clear hi254_0 hl254_0
        replace p254:=eq_true p254
        replace q254:=eq_true q254
        have p255:0≤(x5_1:Int):=of_decide_eq_true (by first|(with_reducible assumption)|assumption)
        have q255:x5_1 < (l1.length:Int):=of_decide_eq_true (by first|(with_reducible assumption)|assumption)
        obtain ⟨ad255,A255_0,c255_0,e255,hx255_0,hl255_0,hi255_0⟩:=at_L7 HR1.out x5_1 p255 q255
        cases e255
        have HR255_0:=aK hi255_0
        have HC255_0:=aK hl255_0
        clear hi255_0 hl255_0
        replace p255:=eq_true p255
        replace q255:=eq_true q255
        go_wp2_with (first|(go_at_call 49;(with_reducible refine (qd1_.calls k1 _ _ (rd_L7 l0 x5_1) _ _ (rd_L7 l1 x5_1) true _ ?side1 ?side2 ?side3 ?side4 A7.out).mono ?_);(case side1=>repeat (first|exact HR254_0.out|(with_reducible refine Kd.qs2_ ?_ _)|(with_reducible refine Kd.qr2_ ?_ _)|(with_reducible refine Kd.C_drew ?_)));(case side2=>exact HC254_0.out);(case side3=>repeat (first|exact HR255_0.out|(with_reducible refine Kd.qs2_ ?_ _)|(with_reducible refine Kd.qr2_ ?_ _)|(with_reducible refine Kd.C_drew ?_)));(case side4=>exact HC255_0.out);rintro e w' ⟨rfl,⟨nd,rfl⟩⟩;(try first|exact ⟨rfl,_,World.drewN_drewN _ _ _⟩|exact ⟨rfl,_,Eq.trans (World.drewN_drewN _ _ _) (congrArg (World.drewN _) (Nat.add_assoc _ _ _))⟩)))
        repeat (go_quiet (first|(go_at_call 49;(with_reducible refine (qd1_.calls k1 _ _ (rd_L7 l0 x5_1) _ _ (rd_L7 l1 x5_1) true _ ?side1 ?side2 ?side3 ?side4 A7.out).mono ?_);(case side1=>repeat (first|exact HR254_0.out|(with_reducible refine Kd.qs2_ ?_ _)|(with_reducible refine Kd.qr2_ ?_ _)|(with_reducible refine Kd.C_drew ?_)));(case side2=>exact HC254_0.out);(case side3=>repeat (first|exact HR255_0.out|(with_reducible refine Kd.qs2_ ?_ _)|(with_reducible refine Kd.qr2_ ?_ _)|(with_reducible refine Kd.C_drew ?_)));(case side4=>exact HC255_0.out);rintro e w' ⟨rfl,⟨nd,rfl⟩⟩;(try first|exact ⟨rfl,_,World.drewN_drewN _ _ _⟩|exact ⟨rfl,_,Eq.trans (World.drewN_drewN _ _ _) (congrArg (World.drewN _) (Nat.add_assoc _ _ _))⟩)));try go_wp2_with (first|(go_at_call 49;(with_reducible refine (qd1_.calls k1 _ _ (rd_L7 l0 x5_1) _ _ (rd_L7 l1 x5_1) true _ ?side1 ?side2 ?side3 ?side4 A7.out).mono ?_);(case side1=>repeat (first|exact HR254_0.out|(with_reducible refine Kd.qs2_ ?_ _)|(with_reducible refine Kd.qr2_ ?_ _)|(with_reducible refine Kd.C_drew ?_)));(case side2=>exact HC254_0.out);(case side3=>repeat (first|exact HR255_0.out|(with_reducible refine Kd.qs2_ ?_ _)|(with_reducible refine Kd.qr2_ ?_ _)|(with_reducible refine Kd.C_drew ?_)));(case side4=>exact HC255_0.out);rintro e w' ⟨rfl,⟨nd,rfl⟩⟩;(try first|exact ⟨rfl,_,World.drewN_drewN _ _ _⟩|exact ⟨rfl,_,Eq.trans (World.drewN_drewN _ _ _) (congrArg (World.drewN _) (Nat.add_assoc _ _ _))⟩))))
        go_roundg k1
        case measure=>have:=HK1.out;omega
        case rel=>exact ⟨(wrap64 (x5_1+1)),(by first|rfl|(simp;done)|(simp [*];done)),H',⟨by have:=HK1.out;omega⟩,by repeat (first|exact Drawn0.refl _|apply Drawn0.step)⟩
       ·replace c8:=Bool.eq_false_iff.mpr c8
        subst c8
        have H1:(some false)=some r:=by rw [if_neg (show ¬ (false=true) by decide)] at H;exact H
        clear H
        have H:=H1
        clear H1
        obtain rfl:=Option.some.inj H
        have p254:0≤(x5_1:Int):=of_decide_eq_true (by first|(with_reducible assumption)|assumption)
        have q254:x5_1 < (l0.length:Int):=of_decide_eq_true (by first|(with_reducible assumption)|assumption)
        obtain ⟨ad254,A254_0,c254_0,e254,hx254_0,hl254_0,hi254_0⟩:=at_L7 HR0.out x5_1 p254 q254
        cases e254
        have HR254_0:=aK hi254_0
        have HC254_0:=aK hl254_0
        clear hi254_0 hl254_0
        replace p254:=eq_true p254
        replace q254:=eq_true q254
        have p255:0≤(x5_1:Int):=of_decide_eq_true (by first|(with_reducible assumption)|assumption)
        have q255:x5_1 < (l1.length:Int):=of_decide_eq_true (by first|(with_reducible assumption)|assumption)
        obtain ⟨ad255,A255_0,c255_0,e255,hx255_0,hl255_0,hi255_0⟩:=at_L7 HR1.out x5_1 p255 q255
        cases e255
        have HR255_0:=aK hi255_0
        have HC255_0:=aK hl255_0
        clear hi255_0 hl255_0
        replace p255:=eq_true p255
        replace q255:=eq_true q255
        go_wp2_with (first|(go_at_call 49;(with_reducible refine (qd1_.calls k1 _ _ (rd_L7 l0 x5_1) _ _ (rd_L7 l1 x5_1) false _ ?side1 ?side2 ?side3 ?side4 A7.out).mono ?_);(case side1=>repeat (first|exact HR254_0.out|(with_reducible refine Kd.qs2_ ?_ _)|(with_reducible refine Kd.qr2_ ?_ _)|(with_reducible refine Kd.C_drew ?_)));(case side2=>exact HC254_0.out);(case side3=>repeat (first|exact HR255_0.out|(with_reducible refine Kd.qs2_ ?_ _)|(with_reducible refine Kd.qr2_ ?_ _)|(with_reducible refine Kd.C_drew ?_)));(case side4=>exact HC255_0.out);rintro e w' ⟨rfl,⟨nd,rfl⟩⟩;(try first|exact ⟨rfl,_,World.drewN_drewN _ _ _⟩|exact ⟨rfl,_,Eq.trans (World.drewN_drewN _ _ _) (congrArg (World.drewN _) (Nat.add_assoc _ _ _))⟩)))
        repeat (go_quiet (first|(go_at_call 49;(with_reducible refine (qd1_.calls k1 _ _ (rd_L7 l0 x5_1) _ _ (rd_L7 l1 x5_1) false _ ?side1 ?side2 ?side3 ?side4 A7.out).mono ?_);(case side1=>repeat (first|exact HR254_0.out|(with_reducible refine Kd.qs2_ ?_ _)|(with_reducible refine Kd.qr2_ ?_ _)|(with_reducible refine Kd.C_drew ?_)));(case side2=>exact HC254_0.out);(case side3=>repeat (first|exact HR255_0.out|(with_reducible refine Kd.qs2_ ?_ _)|(with_reducible refine Kd.qr2_ ?_ _)|(with_reducible refine Kd.C_drew ?_)));(case side4=>exact HC255_0.out);rintro e w' ⟨rfl,⟨nd,rfl⟩⟩;(try first|exact ⟨rfl,_,World.drewN_drewN _ _ _⟩|exact ⟨rfl,_,Eq.trans (World.drewN_drewN _ _ _) (congrArg (World.drewN _) (Nat.add_assoc _ _ _))⟩)));try go_wp2_with (first|(go_at_call 49;(with_reducible refine (qd1_.calls k1 _ _ (rd_L7 l0 x5_1) _ _ (rd_L7 l1 x5_1) false _ ?side1 ?side2 ?side3 ?side4 A7.out).mono ?_);(case side1=>repeat (first|exact HR254_0.out|(with_reducible refine Kd.qs2_ ?_ _)|(with_reducible refine Kd.qr2_ ?_ _)|(with_reducible refine Kd.C_drew ?_)));(case side2=>exact HC254_0.out);(case side3=>repeat (first|exact HR255_0.out|(with_reducible refine Kd.qs2_ ?_ _)|(with_reducible refine Kd.qr2_ ?_ _)|(with_reducible refine Kd.C_drew ?_)));(case side4=>exact HC255_0.out);rintro e w' ⟨rfl,⟨nd,rfl⟩⟩;(try first|exact ⟨rfl,_,World.drewN_drewN _ _ _⟩|exact ⟨rfl,_,Eq.trans (World.drewN_drewN _ _ _) (congrArg (World.drewN _) (Nat.add_assoc _ _ _))⟩))))
        go_ret
        exact ⟨by first|rfl|(simp;done)|(simp [*];done)|(simp [Go.Proofs.YtaiefdhenikiiaaZ.bne_nil];done),by repeat (first|exact Drawn0.refl _|apply Drawn0.step)⟩
      ·rw [if_neg c6] at H
       exact absurd H (by simp)
     ·rw [if_neg c5] at H
      exact absurd H (by simp)
    ·rw [if_neg c4] at H
     have c4b0:decide (x5_1 < (l0.length:Int))=false:=decide_eq_false c4
     clear c4
     obtain rfl:=Option.some.inj H
     go_wp2
     repeat (go_quiet (fail);try go_wp2)
     go_ret
     exact ⟨by first|rfl|(simp;done)|(simp [*];done)|(simp [Go.Proofs.YtaiefdhenikiiaaZ.bne_nil];done),by repeat (first|exact Drawn0.refl _|apply Drawn0.step)⟩
 ·rw [if_neg c3] at H
  have c3b0:((l0.length:Int) == (l1.length:Int))=false:=beq_eq_false_iff_ne.mpr c3
  have c3b1:((l0.length:Int) != (l1.length:Int))=true:=bne_iff_ne.mpr c3
  have c3b2:(l0.length == l1.length)=false:=by first|simpa using c3|(simp at c3 ⊢;omega)
  obtain rfl:=Option.some.inj H
  go_enter Try.func32,Try.ntmps32
  go_wp2
  repeat (go_quiet (fail);try go_wp2)
  go_ret
  exact ⟨by first|rfl|(simp;done)|(simp [*];done)|(simp [Go.Proofs.YtaiefdhenikiiaaZ.bne_nil];done),by repeat (first|exact Drawn0.refl _|apply Drawn0.step)⟩
end Go.Proofs.Ytaiefdhenikiiaa.Base
namespace Go.Proofs.Ytaiefdhenikiiaa.Base
open Go.RowKit Go.Proofs.YtaiefdhenikiiaaW.PrintWords Go.Proofs.YtaiefdhenikiiaaW.PrintLast Go.Proofs.YtaiefdhenikiiaaW.PrintMore
attribute [local go_sem] max2_int qq1_ max_two min_two max_three min_three max_four min_four Go.Proofs.YtaiefdhenikiiaaZ.qu_   -- for this text's walks alone
set_option linter.unusedVariables false
set_option linter.unusedSimpArgs false
def qh1_.l0:Nat→List Int→Int→Int→Option (Int × List Int)
 | 0,_,_,_=>none
 | k+1,x0,x1,x5=>if x5 < (x0.length:Int) then (if 0≤x5 then (qh1_.l0 k (x0.set (x5:Int).toNat x1) (wrap64 (x1+1)) (wrap64 (x5+1))) else (none)) else (some (x1,x0))
def qh1_.f (k:Nat) (l0:List Int) (a1:Int):Option (Int × List Int):=qh1_.l0 k l0 a1 0
theorem qh1_.mono_l:∀ k,(∀ y0 y1 y2,LeO (qh1_.l0 k y0 y1 y2) (qh1_.l0 (k+1) y0 y1 y2))
 | 0=>fun _ _ _ r h=>by simp [qh1_.l0] at h
 | k+1=>by
  have ih0:=qh1_.mono_l k
  ·intro y0 y1 y2
   unfold qh1_.l0
   repeat' first
   | (with_reducible exact ih0 _ _ _)
   | (with_reducible exact LeO.refl _)
   | (with_reducible exact LeO.none _)
   | (with_reducible refine LeO.ite ?_ ?_)
   | (with_reducible refine LeO.bind ?_ (fun _=>?_))
   | exact ih0 _ _ _
   | exact LeO.none _
   | refine LeO.ite ?_ ?_
   | refine LeO.bind ?_ (fun _=>?_)
theorem qh1_.mono:∀ a0 a1 k,LeO (qh1_.f k a0 a1) (qh1_.f (k+1) a0 a1):=by
 intro a0 a1 k
 have ih0:=qh1_.mono_l k
 unfold qh1_.f
 repeat' first
   | (with_reducible exact ih0 _ _ _)
   | (with_reducible exact LeO.refl _)
   | (with_reducible exact LeO.none _)
   | (with_reducible refine LeO.ite ?_ ?_)
   | (with_reducible refine LeO.bind ?_ (fun _=>?_))
   | exact ih0 _ _ _
   | exact LeO.none _
   | refine LeO.ite ?_ ?_
   | refine LeO.bind ?_ (fun _=>?_)
set_option maxHeartbeats 8000000 in
set_option maxRecDepth 100000 in
theorem qh1_.calls (k:Nat) (P0_:Nat→Prop) (u9000_:Value) (l0:List Int) (a1:Int) (r1:Int) (r2:List Int) (w0 w:World) (hB:Below w0.heap.size w0 w) (ho0:Kd.R (Kd.int .i64) 2 w w0.heap.size P0_ u9000_ l0) (h:qh1_.f k l0 a1=some (r1,r2)) :
  Calls Try.prog 50 #[u9000_,.int .i64 a1] w fun e w'=>e=.returned (.int .i64 r1)∧Kd.R (Kd.int .i64) 2 w' w0.heap.size (fun k_=>(P0_ k_ ∨ w.heap.size≤k_)) u9000_ r2∧Below w0.heap.size w0 w'∧Kept w w' (fun k_=>P0_ k_):=by
 have HO0:=aK (show Kd.R (Kd.int .i64) 2 w w0.heap.size (fun k_=>(P0_ k_ ∨ w.heap.size≤k_)) u9000_ l0 from Kd.R_mono ho0 (fun k_ hk=>(.inl hk)))
 have HK:=aK (Kept.refl w (fun k_=>P0_ k_))
 have HW0:=aK hB.size
 have HB:=aK hB
 clear hB
 have H:(qh1_.l0 k l0 a1 0)=some (r1,r2):=h
 clear h
 have H':=aK H
 clear H
 go_enter Try.func50,Try.ntmps50
 go_wp2
 go_loopg [1,5] k (fun kq v1 v5 w'=>∃ (x0_1:List Int) (x1_1:Int) (x5_1:Int),v1=.int .i64 x1_1∧v5=.int .i64 x5_1∧Aside0 (qh1_.l0 kq x0_1 x1_1 x5_1=some (r1,r2))∧Aside0 (kq≤k)∧Aside0 (Kd.R (Kd.int .i64) 2 w' w0.heap.size (fun k_=>(P0_ k_ ∨ w.heap.size≤k_)) u9000_ x0_1)∧Aside0 (Kept w w' (fun k_=>P0_ k_))∧Aside0 (Below w0.heap.size w0 w'))
 case atStart=>exact ⟨(l0),(a1),(0),(by first|rfl|(simp;done)|(simp [*];done)),(by first|rfl|(simp;done)|(simp [*];done)),H',⟨Nat.le_refl _⟩,⟨by (with_reducible repeat (first|apply Kd.qc1_|apply Kd.qm1_|apply Kd.R_drew));exact HO0.out⟩,⟨by repeat (first|(with_reducible first|exact HK.out|apply Kept.alloc|apply Kept.drewN|apply Kept.drew)|exact HK.out)⟩,⟨by repeat (first|(with_reducible first|exact HB.out|apply qb_|apply qa_|apply qc_)|exact HB.out)⟩⟩
 case round =>
  clear H'
  try clear p2
  obtain ⟨x0_1,x1_1,x5_1,rfl,rfl,HA,HK1,HO_0,HK,HB⟩:=hrel
  cases gk with
  | zero=>exact absurd HA.out (by simp [qh1_.l0])
  | succ k1 =>
   have H:=HA.out
   clear HA
   simp only [qh1_.l0] at H
   by_cases c3:x5_1 < (x0_1.length:Int)
   ·rw [if_pos c3] at H
    have c3b0:decide (x5_1 < (x0_1.length:Int))=true:=decide_eq_true c3
    clear c3
    by_cases c4:0≤x5_1
    ·rw [if_pos c4] at H
     have c4b0:decide (0≤x5_1)=true:=decide_eq_true c4
     clear c4
     obtain ⟨y263,hy263⟩:∃ y_:List Int,y_=(x0_1.set (x5_1:Int).toNat x1_1):=⟨_,rfl⟩
     replace H:(qh1_.l0 k1 y263 (wrap64 (x1_1+1)) (wrap64 (x5_1+1)))=some (r1,r2):=by first|(rw [hy263];with_reducible exact H)|(have H2_:=(Option.bind_some _ _).symm.trans H;rw [hy263];with_reducible exact H2_)|(have H2_:=(Option.bind_some _ _).symm.trans H;with_reducible exact H2_)|with_reducible exact H|(rw [hy263];exact H)|exact H
     have Ny263:=aK hy263
     clear hy263
     have H':=aK H
     clear H
     obtain ⟨Ao6,co6,eo6⟩:=Kd.qa2_ HO_0.out
     subst eo6
     have p5:0≤(x5_1:Int):=of_decide_eq_true (by first|(with_reducible assumption)|assumption)
     have q5:(x5_1:Int) < ((x0_1.length:Int):Int):=of_decide_eq_true (by first|(with_reducible assumption)|assumption)
     obtain ⟨go5,co5,eo5,gb5,gl5,cl5,HG5⟩:=Kd.R_form HO_0.out (by omega)
     (first|cases eo5|(injection eo5 with ea_ en_ ec_;(first|subst ea_|(injection ea_ with ea_;subst ea_));subst ec_;clear en_))
     have GB5:=aK gb5
     have GG5:=aK HG5
     clear gb5 gl5 HG5
     have HMgo5:=aK (show (P0_ go5 ∨ w.heap.size≤go5) from (HO_0.out.1 _ rfl))
     obtain ⟨hx5_0,hf5_0⟩:=Kd.R_celln 0 HO_0.out (x5_1:Int) p5 q5
     replace p5:=eq_true p5
     replace q5:=eq_true q5
     have HP7:=Kd.R_putg HO_0.out (x5_1:Int) x1_1
     go_wp2_with (first|((with_reducible refine gate_store (t:=2) (p:=15) rfl ?_);refine store_event (t:=2) (p:=15) (v:=?vo_w8) (w1:=(wr.setCell ⟨go5,(x5_1:Int).toNat,none⟩ (.int .i64 x1_1))) ?hg ?ho ?hn ?hr ?_;(case ho=>rfl);(case hg=>rfl);(case hn=>rfl);(case hr=>first|(go_simp;done)|(go_simp;rfl));intro w8 hw;have hg:wr.grownBy w8 (some go5):=(by rw [hw];exact HP7.2);have hp_:Kd.R (Kd.int .i64) 2 w8 w0.heap.size (fun k_=>(P0_ k_ ∨ w.heap.size≤k_)) (.slice (some ⟨go5,0,none⟩) x0_1.length co6) y263:=(by rw [hw,Ny263.out];exact HP7.1);clear HP7;have n0_:=aK (hp_);have n1_:=aK ((by rw [hw];exact qh_ (HB.out) GB5.out:Below w0.heap.size w0 w8));have n2_:=aK (Kept.of_grown (S:=(fun k_=>P0_ k_)) hg (by repeat (first|(with_reducible first|exact HK.out|apply Kept.alloc|apply Kept.drewN|apply Kept.drew)|exact HK.out)) (fun k_ e_=>(HO_0.out.1 k_ e_)));clear HO_0;clear HB;clear HK;have HO_0:=n0_;have HB:=n1_;have HK:=n2_;clear n0_ n1_ n2_;clear hg hw hp_))
     go_roundg k1
     case measure=>have:=HK1.out;omega
     case rel=>exact ⟨(y263),(wrap64 (x1_1+1)),(wrap64 (x5_1+1)),(by first|rfl|(simp;done)|(simp [*];done)),(by first|rfl|(simp;done)|(simp [*];done)),H',⟨by have:=HK1.out;omega⟩,⟨by (with_reducible repeat (first|apply Kd.qc1_|apply Kd.qm1_|apply Kd.R_drew));exact HO_0.out⟩,⟨by repeat (first|(with_reducible first|exact HK.out|apply Kept.alloc|apply Kept.drewN|apply Kept.drew)|exact HK.out)⟩,⟨by repeat (first|(with_reducible first|exact HB.out|apply qb_|apply qa_|apply qc_)|exact HB.out)⟩⟩
    ·rw [if_neg c4] at H
     exact absurd H (by simp)
   ·rw [if_neg c3] at H
    have c3b0:decide (x5_1 < (x0_1.length:Int))=false:=decide_eq_false c3
    clear c3
    simp only [Option.some.injEq,Prod.mk.injEq] at H
    obtain ⟨rfl,rfl⟩:=H
    obtain ⟨Ao9,co9,eo9⟩:=Kd.qa2_ HO_0.out
    subst eo9
    go_wp2
    go_ret
    exact ⟨by first|rfl|(simp [qn_,qm_] <;> rfl)|(simp [*,qn_,qm_] <;> rfl),by (with_reducible repeat (first|apply Kd.qc1_|apply Kd.qm1_|apply Kd.R_drew));exact HO_0.out,by repeat (first|(with_reducible first|exact HB.out|apply qb_|apply qa_|apply qc_)|exact HB.out),by repeat (first|(with_reducible first|exact HK.out|apply Kept.alloc|apply Kept.drewN|apply Kept.drew)|exact HK.out)⟩
end Go.Proofs.Ytaiefdhenikiiaa.Base
namespace Go.Proofs.Ytaiefdhenikiiaa.Base
open Go.RowKit Go.Proofs.YtaiefdhenikiiaaW.PrintWords Go.Proofs.YtaiefdhenikiiaaW.PrintLast Go.Proofs.YtaiefdhenikiiaaW.PrintMore
attribute [local go_sem] max2_int qq1_ max_two min_two max_three min_three max_four min_four Go.Proofs.YtaiefdhenikiiaaZ.qu_   -- for this text's walks alone
set_option linter.unusedVariables false
set_option linter.unusedSimpArgs false
def rdRow35 (xs:List (List Int)) (i:Int):List Int:=xs.getD i.toNat []
theorem qz_.inner {w:World} {base:Nat} {ok:Nat→Prop} {v:Value} {xs:List (List Int)} (h:Kd.S (Kd.slice 2 (Kd.int .i64)) 50 w base ok v xs) (i:Int) (h0:0≤i) (h1:i < xs.length) :
  ∃ (g cap:Nat) (vi:Value) (P:Nat→Prop),v=.slice (some ⟨g,0,none⟩) xs.length cap∧w.cell? ⟨g,i.toNat,none⟩=some vi∧(∀ k,P k→ok k)∧Kd.R (Kd.int .i64) 2 w base P vi (rdRow35 xs i) ∧
   ∀ w' r,Kd.R (Kd.int .i64) 2 w' base (fun k=>P k ∨ w.heap.size≤k) vi r→(∀ k,k < w.heap.size→¬ P k→w'.heap[k]?=w.heap[k]?)→Kd.S (Kd.slice 2 (Kd.int .i64)) 50 w' base ok v (xs.set i.toNat r):=by
 obtain ⟨f,ho0,inner,ho,hr⟩:=h
 have hl:i.toNat < xs.length:=by omega
 have hz:xs.zipIdx[i.toNat]?=some (xs[i.toNat],i.toNat):=Kd.zip_at (List.getElem?_eq_getElem hl)
 obtain ⟨vi,hvi,hR⟩:=hr.2 i.toNat _ hz
 have hown:=ho
 rw [List.length_zipIdx] at hown
 rcases hown.2 with ⟨rfl,hn⟩|⟨g,cap,cur,rfl,hg,hh,hcap,hmax,hsz,htk⟩
 ·omega
 have hil:inner.length=xs.length:=by have:=hown.1;simp only [Kd.slice,Kd.tag] at this;omega
 have hil2:i.toNat < inner.length:=by omega
 have hin:inner[i.toNat]?=some vi:=by
  have h3:(inner.drop (i.toNat * 1)).take 1=[vi]:=hvi
  rw [Nat.mul_one,List.drop_eq_getElem_cons hil2] at h3
  have h5:=congrArg List.head? h3
  rw [List.take_succ_cons] at h5
  rw [List.getElem?_eq_getElem hil2];exact h5
 have e1:rdRow35 xs i=xs[i.toNat]:=by simp [rdRow35,List.getElem?_eq_getElem hl]
 refine ⟨g,cap,vi,fun k=>(ok k∧some k ≠ (Value.slice (some ⟨g,0,none⟩) xs.length cap).ownBlock)∧f k=i.toNat,rfl,?_,fun k hk=>hk.1.1,by rw [e1];exact hR,?_⟩
 ·have hc:=World.ownsRow.cells hown (g:=g) rfl i.toNat vi hin
  rwa [add_plain] at hc
 intro w' r hr' hf
 have hlt:=Kd.R_lt hR
 have hown':=Kd.own_of_R hr'
 have hR':Kd.R (Kd.int .i64) 2 w' base (fun k=>(ok k∧some k ≠ (Value.slice (some ⟨g,0,none⟩) xs.length cap).ownBlock)∧f k=i.toNat) vi r:=Kd.R_of_own hown' hR.1
 have hlz:(xs.set i.toNat r).zipIdx.length=xs.zipIdx.length:=by simp
 refine ⟨f,ho0,inner,?_,?_,?_⟩
 ·rw [hlz]
  refine own_move ho (fun k hk=>hf k (own_lt ho k hk) (fun hP=>hP.1.2 hk.symm))
 ·rw [hlz];exact hr.1
 ·intro j p hj
  by_cases hji:j=i.toNat
  ·subst hji
   have:p=(r,i.toNat):=by
    have h2:=Kd.zip_at (xs:=xs.set i.toNat r) (j:=i.toNat) (p:=r) (by simp [hl])
    rw [h2] at hj;exact (Option.some.inj hj).symm
   subst this
   exact ⟨vi,hvi,hR'⟩
  ·have hp:xs.zipIdx[j]?=some p:=by
    rw [List.getElem?_zipIdx,List.getElem?_set_ne (by omega)] at hj
    rw [List.getElem?_zipIdx];exact hj
   have hpj:p.2=j:=by
    rw [List.getElem?_zipIdx] at hp
    cases hx:xs[j]? with
    | none=>rw [hx] at hp;cases hp
    | some x=>rw [hx] at hp;rw [← Option.some.inj hp];exact Nat.zero_add j
   have hm:(Kd.slice 2 (Kd.int .i64)).M w base (fun k=>(ok k∧some k ≠ (Value.slice (some ⟨g,0,none⟩) xs.length cap).ownBlock)∧f k=p.2) p.1 ((inner.drop (j * 1)).take 1):=hr.2 j p hp
   have hm2:(Kd.slice 2 (Kd.int .i64)).M w' base (fun k=>(ok k∧some k ≠ (Value.slice (some ⟨g,0,none⟩) xs.length cap).ownBlock)∧f k=p.2) p.1 ((inner.drop (j * 1)).take 1):=Kd.M_step hm (fun k hk hlt=>hf k hlt (fun hP=>hji (by rw [← hpj];exact hk.2.symm.trans hP.2)))
   exact hm2
def qz_.l0:Nat→List (List Int)→Int→Int→Option (Int × List (List Int))
 | 0,_,_,_=>none
 | k+1,x0,x1,x5=>if x5 < (x0.length:Int) then (if 0≤x5 then ((qh1_.f k (rdRow35 x0 x5) x1).bind fun q=>qz_.l0 k (x0.set (x5:Int).toNat q.2) q.1 (wrap64 (x5+1))) else none) else some (x1,x0)
def qz_.f (k:Nat) (l0:List (List Int)) (a1:Int):Option (Int × List (List Int)):=qz_.l0 k l0 a1 0
theorem qz_.mono_l:∀ k y0 y1 y2,LeO (qz_.l0 k y0 y1 y2) (qz_.l0 (k+1) y0 y1 y2)
 | 0,_,_,_=>fun r h=>by simp [qz_.l0] at h
 | k+1,y0,y1,y2=>by
  unfold qz_.l0
  exact LeO.ite (LeO.ite (LeO.bind (qh1_.mono _ _ _) (fun _=>qz_.mono_l k _ _ _)) (LeO.none _)) (LeO.refl _)
theorem qz_.mono:∀ a0 a1 k,LeO (qz_.f k a0 a1) (qz_.f (k+1) a0 a1):=fun a0 a1 k=>qz_.mono_l k _ _ _
set_option maxHeartbeats 8000000 in
set_option maxRecDepth 100000 in
theorem qz_.calls (k:Nat) (P0_:Nat→Prop) (u9000_:Value) (l0:List (List Int)) (a1:Int) (r1:Int) (r2:List (List Int)) (w0 w:World) (hB:Below w0.heap.size w0 w) (ho0:Kd.S (Kd.slice 2 (Kd.int .i64)) 50 w w0.heap.size P0_ u9000_ l0) (h:qz_.f k l0 a1=some (r1,r2)) :
  Calls Try.prog 35 #[u9000_,.int .i64 a1] w fun e w'=>e=.returned (.int .i64 r1)∧Kd.S (Kd.slice 2 (Kd.int .i64)) 50 w' w0.heap.size (fun k_=>(P0_ k_ ∨ w.heap.size≤k_)) u9000_ r2∧Below w0.heap.size w0 w'∧Kept w w' (fun k_=>P0_ k_):=by
 have HO0:=aK (show Kd.S (Kd.slice 2 (Kd.int .i64)) 50 w w0.heap.size (fun k_=>(P0_ k_ ∨ w.heap.size≤k_)) u9000_ l0 from Kd.S_mono ho0 (fun k_ hk=>(.inl hk)))
 have HK:=aK (Kept.refl w (fun k_=>P0_ k_))
 have HB:=aK hB
 clear hB ho0
 have H':=aK (show qz_.l0 k l0 a1 0=some (r1,r2) from h)
 clear h
 go_enter Try.func35,Try.ntmps35
 go_wp2
 go_loopg [1,5] k (fun kq v1 v5 w'=>∃ (x0_1:List (List Int)) (x1_1:Int) (x5_1:Int),v1=.int .i64 x1_1∧v5=.int .i64 x5_1∧Aside0 (qz_.l0 kq x0_1 x1_1 x5_1=some (r1,r2))∧Aside0 (kq≤k)∧Aside0 (Kd.S (Kd.slice 2 (Kd.int .i64)) 50 w' w0.heap.size (fun k_=>(P0_ k_ ∨ w.heap.size≤k_)) u9000_ x0_1)∧Aside0 (Kept w w' (fun k_=>P0_ k_))∧Aside0 (Below w0.heap.size w0 w'))
 case atStart=>exact ⟨l0,a1,0,rfl,rfl,H',⟨Nat.le_refl _⟩,HO0,HK,HB⟩
 case round =>
  clear H'
  obtain ⟨x0_1,x1_1,x5_1,rfl,rfl,HA,HK1,HO_0,HK,HB⟩:=hrel
  obtain ⟨Ao6,co6,eo6⟩:=Kd.qa2_ (Kd.S_R HO_0.out)
  cases gk with
  | zero=>exact absurd HA.out (by simp [qz_.l0])
  | succ k1 =>
   have H:=HA.out
   clear HA
   simp only [qz_.l0] at H
   by_cases c3:x5_1 < (x0_1.length:Int)
   ·rw [if_pos c3] at H
    by_cases c4:0≤x5_1
    ·rw [if_pos c4] at H
     obtain ⟨g,cap,vi,P,ev,hcell,hP,hR,hclose⟩:=qz_.inner HO_0.out x5_1 c4 c3
     obtain ⟨q,hq,H⟩:=Option.bind_eq_some_iff.mp H
     subst ev
     clear eo6
     have c3b0:decide (x5_1 < (x0_1.length:Int))=true:=decide_eq_true c3
     have c3b1:=eq_true c3
     have c4b1:=eq_true c4
     have HR:=aK hR
     have HQ:=aK hq
     have HN:=aK H
     have HC:=aK hclose
     have HP:=aK hP
     clear hR hq H hclose hP c3 c4
     go_wp2_with (go_at_call 50;refine (qh1_.calls k1 P vi _ x1_1 q.1 q.2 w0 _ (by repeat (first|(with_reducible first|exact HB.out|apply qb_|apply qa_|apply qc_)|exact HB.out)) (by (with_reducible repeat (first|apply Kd.qc1_|apply Kd.qm1_|apply Kd.R_drew));exact HR.out) HQ.out).mono ?_;rintro e w' ⟨rfl,hr',hb',hk'⟩;have HR2:=aK hr';have HB2:=aK hb';have HK2:=aK hk';clear hr' hb' hk')
     go_roundg k1
     case measure=>have:=HK1.out;omega
     case rel=>exact ⟨_,_,_,rfl,rfl,HN,⟨by have:=HK1.out;omega⟩,⟨HC.out _ _ HR2.out HK2.out.2⟩,⟨Kept.then_ HK.out HK2.out HP.out⟩,HB2⟩
    ·rw [if_neg c4] at H
     cases H
   ·rw [if_neg c3] at H
    have HH:=aK (Option.some.inj H)
    have c3b0:decide (x5_1 < (x0_1.length:Int))=false:=decide_eq_false c3
    have c3b1:=eq_false c3
    clear H c3
    subst eo6
    go_wp2
    go_ret
    have h1:x1_1=r1:=congrArg Prod.fst HH.out
    have h2:x0_1=r2:=congrArg Prod.snd HH.out
    subst h1 h2
    exact ⟨rfl,HO_0.out,HB.out,HK.out⟩
end Go.Proofs.Ytaiefdhenikiiaa.Base
namespace Go.Proofs.YtaiefdhenikiiaaC
open Go.RowKit Go.Proofs.YtaiefdhenikiiaaW.PrintWords Go.Proofs.YtaiefdhenikiiaaW.PrintLast Go.Proofs.YtaiefdhenikiiaaW.PrintMore
set_option linter.unusedVariables false
set_option linter.unusedSimpArgs false
set_option maxHeartbeats 1000000 in
theorem path_row_fn (e:Int) (B:Nat) (A0:Option Addr) (c0:Nat) (row:List Int) (V:World) (hc:V.cell? ⟨B,0,none⟩=some (.int .i64 e)) (hr:Kd.C (Kd.int .i64) V A0 row.length row) :
    Calls Try.prog 172 #[.slice A0 row.length c0,.pointer (some ⟨B,0,none⟩)] V fun e' w'=>e'=.returned (.bool (!rowOk e 100 row))∧Below V.heap.size V w':=by
  by_cases h:(row.length:Int)=e
  · have hall:=allUpTo_any A0 c0 row 100 V hr
    have hz:rowOk e 100 row=allUpTo row 100:=by simp [rowOk,h]
    have HZ:=Aside0.mk hz
    have h1:((row.length:Int) == e)=true:=beq_iff_eq.2 h
    have h2:((row.length:Int) != e)=false:=by rw [bne_eq_false_iff_eq];exact h
    clear h hz hr
    go_enter Try.func172,Try.ntmps172
    go_wp2_with (go_at_call 173;refine hall.mono ?_;rintro e w' ⟨rfl,hb⟩;have HB:=Aside0.mk hb;clear hb)
    go_ret
    exact ⟨by rw [HZ.out];rfl,HB.out⟩
  · have hz:rowOk e 100 row=false:=by simp [rowOk,h]
    have HZ:=Aside0.mk hz
    have h1:((row.length:Int) == e)=false:=beq_eq_false_iff_ne.2 h
    have h2:((row.length:Int) != e)=true:=by rw [bne_iff_ne];exact h
    clear h hz hr
    go_enter Try.func172,Try.ntmps172
    go_wp2
    go_ret
    exact ⟨by rw [HZ.out];rfl,Below.refl _ _⟩
def isPath (e:Int) (l:List (List Int)):Bool:=letters e && decide ((l.length:Int)≤12) && l.all (rowOk e 100)
set_option maxHeartbeats 2000000 in
theorem isPath_any (e:Int) (A2:Option Addr) (c2:Nat) (l2:List (List Int)) (w:World) (hr2:Kd.C (Kd.slice 2 (Kd.int .i64)) w A2 l2.length l2) :
    Calls Try.prog 117 #[.int .i64 e,.slice A2 l2.length c2] w fun e' w'=>e'=.returned (.bool (isPath e l2))∧Below w.heap.size w w':=by
  have eg:∀ args w,(callFunc 172 args).run Try.prog w=.ok (.enter 172 args) w:=enters_of Try.func172 (by kernel_rfl) rfl
  have hba:Below w.heap.size w (w.alloc (.cells #[.int .i64 e] 2)):=qb_ (Below.refl _ _) _
  have hcon:=contains_rows 172 #[.pointer (some ⟨w.heap.size,0,none⟩)] (cellOf w A2) (fun j=>!rowOk e 100 (l2.getD j [])) A2 l2.length c2 (w.alloc (.cells #[.int .i64 e] 2)) eg hr2.2.1
    (fun hp=>by
      obtain ⟨ad,_,_,rfl,_⟩:=row_at hr2 0 hp
      refine ⟨ad,rfl,fun j hj=>?_⟩
      obtain ⟨ad',A0,c0,e0,hx,_,_⟩:=row_at hr2 j hj
      cases e0
      rw [show cellOf w (some ad) j=.slice A0 (l2.getD j []).length c0 by simp [cellOf,hx]]
      exact (World.cell?_alloc_lt _ _ _ (World.block_lt_of_cell? _ _ hx)).trans hx)
    (row_test 172 100 e w.heap.size w _ (by simp) A2 l2.length l2 hba hr2 (fun A0 c0 row V hc hr=>path_row_fn e w.heap.size A0 c0 row V hc hr))
  have hz:(!anyN (fun j=>!rowOk e 100 (l2.getD j [])) l2.length)=l2.all (rowOk e 100):=any_rows l2 (rowOk e 100)
  have hle:=letters_any e
  have hdef:isPath e l2=(letters e && decide ((l2.length:Int)≤12) && !anyN (fun j=>!rowOk e 100 (l2.getD j [])) l2.length):=by rw [hz];rfl
  have HD:=Aside0.mk hdef
  clear hz hdef hr2
  generalize anyN (fun j=>!rowOk e 100 (l2.getD j [])) l2.length=b at hcon HD
  generalize isPath e l2=res at HD
  have HBA:=Aside0.mk hba
  clear hba
  cases he:letters e with
  | false =>
    rw [he] at hle HD
    clear he hcon
    go_enter Try.func117,Try.ntmps117
    go_wp2_with (go_at_call 163;refine (hle _).mono ?_;rintro e w' ⟨rfl,rfl⟩)
    go_ret
    exact ⟨by rw [HD.out];rfl,HBA.out⟩
  | true =>
    rw [he] at hle HD
    clear he
    by_cases h:(l2.length:Int)≤12
    · have h1:decide ((l2.length:Int)≤12)=true:=decide_eq_true h
      have HH:=Aside0.mk h1
      go_enter Try.func117,Try.ntmps117
      go_wp2_with (first|(go_at_call 163;with_reducible refine (hle _).mono ?_;rintro e w' ⟨rfl,rfl⟩)|(go_at_call 171;refine hcon.mono ?_;rintro e w' ⟨rfl,hb⟩;have HB:=Aside0.mk hb;clear hb))
      go_ret
      exact ⟨by rw [HD.out,HH.out];rfl,qj3_ HBA.out HBA.out.size HB.out⟩
    · have h1:decide ((l2.length:Int)≤12)=false:=decide_eq_false h
      have HH:=Aside0.mk h1
      clear hcon
      go_enter Try.func117,Try.ntmps117
      go_wp2_with (go_at_call 163;with_reducible refine (hle _).mono ?_;rintro e w' ⟨rfl,rfl⟩)
      go_ret
      exact ⟨by rw [HD.out,HH.out];rfl,HBA.out⟩
end Go.Proofs.YtaiefdhenikiiaaC
namespace Go.Proofs.Ytaiefdhenikiiaa.Base
open Go.RowKit Go.Proofs.YtaiefdhenikiiaaW.PrintWords Go.Proofs.YtaiefdhenikiiaaW.PrintLast Go.Proofs.YtaiefdhenikiiaaW.PrintMore
attribute [local go_sem] max2_int qq1_ max_two min_two max_three min_three max_four min_four Go.Proofs.YtaiefdhenikiiaaZ.qu_   -- for this text's walks alone
set_option linter.unusedVariables false
set_option linter.unusedSimpArgs false
def qu2_.f (a0_0:Int) (a0_1:Int) (l0_2:List (S79)):Option (Int × Int × (List (S79))):=some (a0_0,a0_1,(([]:List (S79))))
set_option maxHeartbeats 8000000 in
set_option maxRecDepth 100000 in
theorem qu2_.calls (a0_0:Int) (a0_1:Int) (A0_2:Option Addr) (c0_2:Nat) (l0_2:List (S79)) (r1:Int) (r2:Int) (r3:List (S79)) (w:World) (hr0_2:Kd.C k79 w A0_2 l0_2.length l0_2) (hc0_2:l0_2.length≤c0_2) (h:qu2_.f a0_0 a0_1 l0_2=some (r1,r2,r3)) :
  Calls Try.prog 108 #[.agg #[.int .i64 a0_0,.int .i64 a0_1,.slice A0_2 l0_2.length c0_2]] w fun e w'=>∃ v2_:Value,e=.returned (.agg #[.int .i64 r1,.int .i64 r2,v2_])∧Kd.R k79 79 w' w.heap.size (fun _=>True) v2_ r3∧Below w.heap.size w w':=by
 have hu38:=Try.underlying38
 have HR0_2:=aK hr0_2
 have HC0_2:=aK hc0_2
 clear hr0_2 hc0_2
 have HB:=aK (Below.refl w.heap.size w)
 have H:(some (a0_0,a0_1,(([]:List (S79)))))=some (r1,r2,r3):=h
 clear h
 obtain ⟨y272,hy272⟩:∃ y_:List (S79),y_=(([]:List (S79))):=⟨_,rfl⟩
 replace H:(some (a0_0,a0_1,y272))=some (r1,r2,r3):=by first|(rw [hy272];with_reducible exact H)|(have H2_:=(Option.bind_some _ _).symm.trans H;rw [hy272];with_reducible exact H2_)|(have H2_:=(Option.bind_some _ _).symm.trans H;with_reducible exact H2_)|with_reducible exact H|(rw [hy272];exact H)|exact H
 have Ny272:=aK hy272
 clear hy272
 simp only [Option.some.injEq,Prod.mk.injEq] at H
 obtain ⟨rfl,rfl,rfl⟩:=H
 go_enter Try.func108,Try.ntmps108
 go_wp2_with (first|((with_reducible refine qf1_ (N:=1) rfl ?_);refine qg1_ ?hg (N:=1) ?hd (cs:=#[.int .i64 a0_0,.int .i64 a0_1,.slice A0_2 l0_2.length c0_2]) (t:=38) ?hr ?_;(case hd=>rfl);(case hg=>rfl);(case hr=>first|(go_simp;done)|(go_simp;rfl));intro gb270 hg w2 hbox hb;have n0_:=aK (qe_ (by repeat (first|(with_reducible first|exact HB.out|apply qb_|apply qa_|apply qc_)|exact HB.out)) hb);have n1_:=aK (hbox);have n2_:=aK ((by rw [hg];exact (qk_ (by repeat (first|(with_reducible first|exact HB.out|apply qb_|apply qa_|apply qc_)|exact HB.out))):w.heap.size≤gb270));have n3_:=aK ((by rw [hg];exact (qk_ (by repeat (first|(with_reducible first|exact HB.out|apply qb_|apply qa_|apply qc_)|exact HB.out))):w.heap.size≤gb270));clear HB;have HB:=n0_;have BK270:=n1_;have GW270:=n2_;have GE270:=n3_;clear n0_ n1_ n2_ n3_;clear hb hbox hg)|((with_reducible refine qf1_ (N:=2) rfl ?_);refine qg1_ ?hg (N:=2) ?hd (cs:=#[.int .i64 0,.int .i64 0,.slice none 0 0]) (t:=38) ?hr ?_;(case hd=>rfl);(case hg=>rfl);(case hr=>first|(go_simp;done)|(go_simp;rfl));intro gb271 hg w3 hbox hb;have n0_:=aK (ql_ (g:=gb270) (o:=.cells #[.int .i64 a0_0,.int .i64 a0_1,.slice A0_2 l0_2.length c0_2] 38 (0,0)) (by (with_reducible repeat (first|refine qg_ ?_ _|refine qi_ ?_|refine qf_ ?_ _));exact BK270.out) hb);have n1_:=aK (qe_ (by repeat (first|(with_reducible first|exact HB.out|apply qb_|apply qa_|apply qc_|refine qh_ ?_ GE270.out)|exact HB.out)) hb);have n2_:=aK (hbox);have n3_:=aK ((by rw [hg];exact (qk_ (by repeat (first|(with_reducible first|exact HB.out|apply qb_|apply qa_|apply qc_|refine qh_ ?_ GE270.out)|exact HB.out))):w.heap.size≤gb271));have n4_:=aK ((by rw [hg];exact (qk_ (by repeat (first|(with_reducible first|exact HB.out|apply qb_|apply qa_|apply qc_|refine qh_ ?_ GE270.out)|exact HB.out))):w.heap.size≤gb271));have n5_:=aK ((by rw [hg];exact Nat.ne_of_lt (blk_lt (g:=gb270) (o:=.cells #[.int .i64 a0_0,.int .i64 a0_1,.slice A0_2 l0_2.length c0_2] 38 (0,0)) (by (with_reducible repeat (first|refine qg_ ?_ _|refine qi_ ?_|refine qf_ ?_ _));exact BK270.out)):gb270 ≠ gb271));have n6_:=aK ((by rw [hg];exact Nat.ne_of_gt (blk_lt (g:=gb270) (o:=.cells #[.int .i64 a0_0,.int .i64 a0_1,.slice A0_2 l0_2.length c0_2] 38 (0,0)) (by (with_reducible repeat (first|refine qg_ ?_ _|refine qi_ ?_|refine qf_ ?_ _));exact BK270.out)):gb271 ≠ gb270));clear BK270;clear HB;have BK270:=n0_;have HB:=n1_;have BK271:=n2_;have GW271:=n3_;have GE271:=n4_;have NB270_271:=n5_;have NB271_270:=n6_;clear n0_ n1_ n2_ n3_ n4_ n5_ n6_;clear hb hbox hg;have hnb4:=NB270_271.out;have hnc4:=NB271_270.out;have hcz5_0:w3.cell? ⟨gb270,0,none⟩=some (.int .i64 a0_0):=(qj_ BK270.out 0).trans rfl;have hcz5_1:w3.cell? ⟨gb270,1,none⟩=some (.int .i64 a0_1):=(qj_ BK270.out 1).trans rfl;have hcz5_2:w3.cell? ⟨gb270,2,none⟩=some (.slice A0_2 l0_2.length c0_2):=(qj_ BK270.out 2).trans rfl;have hfz5_0:=qd_ BK270.out 0;have hfz5_1:=qd_ BK270.out 1;have hfz5_2:=qd_ BK270.out 2)|((with_reducible refine qf1_ (N:=7) rfl ?_);refine Kd.R_lit k79 _ 79 ?hg (N:=7) ?hd (xs:=([]:List (S79))) (inner:=[]) (ok:=fun _=>True) (okp:=fun _=>True) ?hr ?hp (fun _ hk=>hk) trivial (Below.refl _ _) (Nat.le_refl _) (by simp) ?_;(case hd=>rfl);(case hg=>rfl);(case hr=>first|(go_simp;done)|(go_simp;rfl));(case hp=>exact (Reps.none _ _));intro v273 w6 ho7 hb hg_ hnew_;clear hg_ hnew_;(first|rw [← Ny272.out] at ho7|(simp only [Int.reduceToNat] at ho7;rw [← Ny272.out] at ho7));have n0_:=aK (Kd.qi2_ ho7 (qk_ (by repeat (first|(with_reducible first|exact HB.out|apply qb_|apply qa_|apply qc_|refine qh_ ?_ GE270.out|refine qh_ ?_ GE271.out)|exact HB.out))));have n1_:=aK (ql_ (g:=gb270) (o:=.cells #[.int .i64 a0_0,.int .i64 a0_1,.slice A0_2 l0_2.length c0_2] 38 (0,0)) (by (with_reducible repeat (first|refine qg_ ?_ _|refine qi_ ?_|refine qf_ ?_ _));exact BK270.out) hb);have n2_:=aK (ql_ (g:=gb271) (o:=.cells #[.int .i64 0,.int .i64 0,.slice none 0 0] 38 (0,0)) (by (with_reducible repeat (first|refine qg_ ?_ _|refine qi_ ?_|refine qf_ ?_ _));exact BK271.out) hb);have n3_:=aK (qe_ (by repeat (first|(with_reducible first|exact HB.out|apply qb_|apply qa_|apply qc_|refine qh_ ?_ GE270.out|refine qh_ ?_ GE271.out)|exact HB.out)) hb);clear BK270;clear BK271;clear HB;have HO274:=n0_;have BK270:=n1_;have BK271:=n2_;have HB:=n3_;clear n0_ n1_ n2_ n3_;clear hb ho7;obtain ⟨Ao8,co8,eo8⟩:=Kd.qa2_ HO274.out;subst eo8;have hcz9_0:w6.cell? ⟨gb271,0,none⟩=some (.int .i64 0):=(qj_ BK271.out 0).trans rfl;have hcz9_1:w6.cell? ⟨gb271,1,none⟩=some (.int .i64 0):=(qj_ BK271.out 1).trans rfl;have hcz9_2:w6.cell? ⟨gb271,2,none⟩=some (.slice none 0 0):=(qj_ BK271.out 2).trans rfl;have hfz9_0:=qd_ BK271.out 0;have hfz9_1:=qd_ BK271.out 1;have hfz9_2:=qd_ BK271.out 2))
 refine bodyPost_ret (results_cell_row rfl _ _ gb271 38 #[.int .i64 a0_0,.int .i64 a0_1,.slice Ao8 y272.length co8] (0,0) _ rfl (by (with_reducible repeat (first|refine qg_ ?_ _|refine qi_ ?_|refine qf_ ?_ _));refine qz1_ (cs:=#[.int .i64 a0_0,.int .i64 a0_1,.slice none 0 0]) ?_ 2 _ rfl;(with_reducible repeat (first|refine qg_ ?_ _|refine qi_ ?_|refine qf_ ?_ _));refine qz1_ (cs:=#[.int .i64 a0_0,.int .i64 0,.slice none 0 0]) ?_ 1 _ rfl;(with_reducible repeat (first|refine qg_ ?_ _|refine qi_ ?_|refine qf_ ?_ _));refine qz1_ (cs:=#[.int .i64 0,.int .i64 0,.slice none 0 0]) ?_ 0 _ rfl;(with_reducible repeat (first|refine qg_ ?_ _|refine qi_ ?_|refine qf_ ?_ _));exact BK271.out) Try.underlying38 rfl (by kernel_rfl)) rfl ?_
 exact ⟨_,by first|rfl|(simp [qn_,qm_] <;> rfl)|(simp [*,qn_,qm_] <;> rfl),by (with_reducible repeat (first|apply Kd.qc1_|apply Kd.qm1_|apply Kd.R_drew));exact Kd.R_mono (Kd.R_far (p:=⟨gb271,2,none⟩) (Kd.R_far (p:=⟨gb271,1,none⟩) (Kd.R_far (p:=⟨gb271,0,none⟩) (Kd.R_types HO274.out BK271.out (by decide)) (fun _ hk=>hk.2) (.int .i64 a0_0)) (fun _ hk=>hk.2) (.int .i64 a0_1)) (fun _ hk=>hk.2) (.slice Ao8 y272.length co8)) (fun _ hk=>trivial),by repeat (first|(with_reducible first|exact HB.out|apply qb_|apply qa_|apply qc_|refine qh_ ?_ GE270.out|refine qh_ ?_ GE271.out)|exact HB.out)⟩
end Go.Proofs.Ytaiefdhenikiiaa.Base
namespace Go.Proofs.Ytaiefdhenikiiaa.Base
open Go.RowKit Go.Proofs.YtaiefdhenikiiaaW.PrintWords Go.Proofs.YtaiefdhenikiiaaW.PrintLast Go.Proofs.YtaiefdhenikiiaaW.PrintMore
attribute [local go_sem] max2_int qq1_ max_two min_two max_three min_three max_four min_four Go.Proofs.YtaiefdhenikiiaaZ.qu_   -- for this text's walks alone
set_option linter.unusedVariables false
set_option linter.unusedSimpArgs false
def qt2_.f (a0:Int):Option (Int × Int):=some (a0,1)
set_option maxHeartbeats 8000000 in
set_option maxRecDepth 100000 in
theorem qt2_.calls (a0:Int) (r1:Int) (r2:Int) (w:World) (h:qt2_.f a0=some (r1,r2)) :
  Calls Try.prog 124 #[.int .i64 a0] w fun e w'=>e=.returned (.agg #[.int .i64 r1,.int .i64 r2])∧Below w.heap.size w w':=by
 have hu77:=Try.underlying77
 have HB:=aK (Below.refl w.heap.size w)
 have H:(some (a0,1))=some (r1,r2):=h
 clear h
 simp only [Option.some.injEq,Prod.mk.injEq] at H
 obtain ⟨rfl,rfl⟩:=H
 go_enter Try.func124,Try.ntmps124
 go_wp2_with (first|((with_reducible refine qf1_ (N:=2) rfl ?_);refine qg1_ ?hg (N:=2) ?hd (cs:=#[.int .i64 0,.int .i64 0]) (t:=77) ?hr ?_;(case hd=>rfl);(case hg=>rfl);(case hr=>first|(go_simp;done)|(go_simp;rfl));intro gb564 hg w2 hbox hb;have n0_:=aK (qe_ (by repeat (first|(with_reducible first|exact HB.out|apply qb_|apply qa_|apply qc_)|exact HB.out)) hb);have n1_:=aK (hbox);have n2_:=aK ((by rw [hg];exact (qk_ (by repeat (first|(with_reducible first|exact HB.out|apply qb_|apply qa_|apply qc_)|exact HB.out))):w.heap.size≤gb564));have n3_:=aK ((by rw [hg];exact (qk_ (by repeat (first|(with_reducible first|exact HB.out|apply qb_|apply qa_|apply qc_)|exact HB.out))):w.heap.size≤gb564));clear HB;have HB:=n0_;have BK564:=n1_;have GW564:=n2_;have GE564:=n3_;clear n0_ n1_ n2_ n3_;clear hb hbox hg;have hcz3_0:w2.cell? ⟨gb564,0,none⟩=some (.int .i64 0):=(qj_ BK564.out 0).trans rfl;have hcz3_1:w2.cell? ⟨gb564,1,none⟩=some (.int .i64 0):=(qj_ BK564.out 1).trans rfl;have hfz3_0:=qd_ BK564.out 0;have hfz3_1:=qd_ BK564.out 1))
 refine bodyPost_ret (results_cell_row rfl _ _ gb564 77 #[.int .i64 a0,.int .i64 1] (0,0) _ rfl (by (with_reducible repeat (first|refine qg_ ?_ _|refine qi_ ?_|refine qf_ ?_ _));refine qz1_ (cs:=#[.int .i64 a0,.int .i64 0]) ?_ 1 _ rfl;(with_reducible repeat (first|refine qg_ ?_ _|refine qi_ ?_|refine qf_ ?_ _));refine qz1_ (cs:=#[.int .i64 0,.int .i64 0]) ?_ 0 _ rfl;(with_reducible repeat (first|refine qg_ ?_ _|refine qi_ ?_|refine qf_ ?_ _));exact BK564.out) Try.underlying77 rfl (by kernel_rfl)) rfl ?_
 exact ⟨by first|rfl|(simp [qn_,qm_] <;> rfl)|(simp [*,qn_,qm_] <;> rfl),by repeat (first|(with_reducible first|exact HB.out|apply qb_|apply qa_|apply qc_|refine qh_ ?_ GE564.out)|exact HB.out)⟩
end Go.Proofs.Ytaiefdhenikiiaa.Base
namespace Go.Proofs.Ytaiefdhenikiiaa.Base
open Go.RowKit Go.Proofs.YtaiefdhenikiiaaW.PrintWords Go.Proofs.YtaiefdhenikiiaaW.PrintLast Go.Proofs.YtaiefdhenikiiaaW.PrintMore
attribute [local go_sem] max2_int qq1_ max_two min_two max_three min_three max_four min_four Go.Proofs.YtaiefdhenikiiaaZ.qu_   -- for this text's walks alone
set_option linter.unusedVariables false
set_option linter.unusedSimpArgs false
def qa1_.l0:Nat→Int→List Int→Int→Int→Int→List (S79)→Option (Int × Int × (List (S79)))
 | 0,_,_,_,_,_,_=>none
 | k+1,x0,x2,x8,x905000,x905001,x905002=>if x8 < x0 then (if 0≤x8 then (if x8 < (x2.length:Int) then (if (rd x2 x8)=0 then (qa1_.l0 k x0 x2 (wrap64 (x8+1)) x905000 x905001 x905002) else ((qt2_.f (rd x2 x8)).bind fun bt910=>(if x905002.length < 4398046511104 then (qa1_.l0 k x0 x2 (wrap64 (x8+1)) x905000 x905001 (x905002 ++ [(⟨strOfNums (([(wrap64 (48+x8)) % 256]:List Int)),(⟨bt910.1,bt910.2⟩:S77)⟩:S79)])) else (none)))) else (none)) else (none)) else (some (x905000,x905001,x905002))
def qa1_.f (k:Nat) (a0:Int) (a1:Int) (l2:List Int):Option (Int × Int × (List (S79))):=(qu2_.f a0 a1 ([]:List (S79))).bind fun bt899=>(qa1_.l0 k a0 l2 0 bt899.1 bt899.2.1 bt899.2.2)
theorem qa1_.mono_l:∀ k,(∀ y0 y1 y2 y3 y4 y5,LeO (qa1_.l0 k y0 y1 y2 y3 y4 y5) (qa1_.l0 (k+1) y0 y1 y2 y3 y4 y5))
 | 0=>fun _ _ _ _ _ _ r h=>by simp [qa1_.l0] at h
 | k+1=>by
  have ih0:=qa1_.mono_l k
  ·intro y0 y1 y2 y3 y4 y5
   unfold qa1_.l0
   repeat' first
   | (with_reducible exact ih0 _ _ _ _ _ _)
   | (with_reducible exact LeO.refl _)
   | (with_reducible exact LeO.none _)
   | (with_reducible refine LeO.ite ?_ ?_)
   | (with_reducible refine LeO.bind ?_ (fun _=>?_))
   | exact ih0 _ _ _ _ _ _
   | exact LeO.none _
   | refine LeO.ite ?_ ?_
   | refine LeO.bind ?_ (fun _=>?_)
theorem qa1_.mono:∀ a0 a1 a2 k,LeO (qa1_.f k a0 a1 a2) (qa1_.f (k+1) a0 a1 a2):=by
 intro a0 a1 a2 k
 have ih0:=qa1_.mono_l k
 unfold qa1_.f
 repeat' first
   | (with_reducible exact ih0 _ _ _ _ _ _)
   | (with_reducible exact LeO.refl _)
   | (with_reducible exact LeO.none _)
   | (with_reducible refine LeO.ite ?_ ?_)
   | (with_reducible refine LeO.bind ?_ (fun _=>?_))
   | exact ih0 _ _ _ _ _ _
   | exact LeO.none _
   | refine LeO.ite ?_ ?_
   | refine LeO.bind ?_ (fun _=>?_)
def qa1_.T6:Bool × List (List Nat × List Nat):=(true,[([],[]),([0],[0]),([],[]),([2],[2]),([3],[3]),([4],[4]),([5],[5]),([],[]),([],[]),([7,8],[7,8]),([9],[9]),([10],[10]),([6,11],[6,11]),([12],[12]),([1,13,11],[1,13]),([0,1,2,3,4,5,6,7,8,9,10,11,12,13,14],[]),([15,14,14,0,1,2,3,4,5,6,7,8,9,10,11,12,13,14],[14,15])])
def qa1_.B6:List Nat:=[0,1,0,4,12,28,60,0,0,384,896,1920,4092,8188,16383,32767,65535]
theorem qa1_.tab6:rtab .any (opsOf Try.f103 6)=qa1_.T6:=by kernel_rfl
theorem qa1_.bits6:waitsOk qa1_.T6.2 qa1_.B6=true:=by kernel_rfl
set_option maxHeartbeats 8000000 in
set_option maxRecDepth 100000 in
theorem qa1_.calls (k:Nat) (a0:Int) (a1:Int) (A2:Option Addr) (c2:Nat) (l2:List Int) (r1:Int) (r2:Int) (r3:List (S79)) (w:World) (hr2:Kd.C (Kd.int .i64) w A2 l2.length l2) (hc2:l2.length≤c2) (h:qa1_.f k a0 a1 l2=some (r1,r2,r3)) :
  Calls Try.prog 103 #[.int .i64 a0,.int .i64 a1,.slice A2 l2.length c2] w fun e w'=>∃ v2_:Value,e=.returned (.agg #[.int .i64 r1,.int .i64 r2,v2_])∧Kd.R k79 79 w' w.heap.size (fun _=>True) v2_ r3∧Below w.heap.size w w':=by
 have hu38:=Try.underlying38
 have hu79:=Try.underlying79
 have HR2:=aK hr2
 have HC2:=aK hc2
 clear hr2 hc2
 have HB:=aK (Below.refl w.heap.size w)
 have H:((qu2_.f a0 a1 ([]:List (S79))).bind fun bt899=>(qa1_.l0 k a0 l2 0 bt899.1 bt899.2.1 bt899.2.2))=some (r1,r2,r3):=h
 clear h
 replace H:=Option.bind_eq_some_iff.mp H
 obtain ⟨⟨t899,t900,t901⟩,A40,H⟩:=H
 replace H:(qa1_.l0 k a0 l2 0 t899 t900 t901)=some (r1,r2,r3):=H
 have A4:=aK A40
 clear A40
 have H':=aK H
 clear H
 go_enter Try.func103,Try.ntmps103
 go_wp2_with (first|((with_reducible refine qf1_ (N:=6) rfl ?_);refine qg1_ ?hg (N:=6) ?hd (cs:=#[.int .i64 0,.int .i64 0,.slice none 0 0]) (t:=38) ?hr ?_;(case hd=>rfl);(case hg=>rfl);(case hr=>first|(go_simp;done)|(go_simp;rfl));intro gb898 hg w5 hbox hb;have n0_:=aK (qe_ (by repeat (first|(with_reducible first|exact HB.out|apply qb_|apply qa_|apply qc_)|exact HB.out)) hb);have n1_:=aK (hbox);have n2_:=aK ((by rw [hg];exact (qk_ (by repeat (first|(with_reducible first|exact HB.out|apply qb_|apply qa_|apply qc_)|exact HB.out))):w.heap.size≤gb898));have n3_:=aK ((by rw [hg];exact (qk_ (by repeat (first|(with_reducible first|exact HB.out|apply qb_|apply qa_|apply qc_)|exact HB.out))):w.heap.size≤gb898));clear HB;have HB:=n0_;have BK898:=n1_;have GW898:=n2_;have GE898:=n3_;clear n0_ n1_ n2_ n3_;clear hb hbox hg)|((with_reducible refine qt_ (f:=108) rfl ?_);refine goesL_ (some 12) rfl rfl Try.func108 (by kernel_rfl) rfl #[.agg #[.int .i64 a0,.int .i64 a1,.slice none 0 0]] rfl (by (try simp only [List.map_toArray,List.map_cons,List.map_nil]);first|done|rfl|(simp only [List.length_drop,List.length_take];rfl)) ?_;(refine (qu2_.calls a0 a1 _ _ ([]:List (S79)) t899 t900 t901 _ ?side1 ?side2 A4.out).mono ?_);(case side1=>exact Kd.C_nil _ _);(case side2=>exact Nat.le_refl _);rintro e w6 ⟨v902,rfl,ho0,hb⟩;refine ⟨_,rfl,?_⟩;have n0_:=aK (Kd.qi2_ ho0 (qk_ (by repeat (first|(with_reducible first|exact HB.out|apply qb_|apply qa_|apply qc_|refine qh_ ?_ GE898.out)|exact HB.out))));have n1_:=aK (ql_ (g:=gb898) (o:=.cells #[.int .i64 0,.int .i64 0,.slice none 0 0] 38 (0,0)) (by (with_reducible repeat (first|refine qg_ ?_ _|refine qi_ ?_|refine qf_ ?_ _));exact BK898.out) hb);have n2_:=aK (qe_ (by repeat (first|(with_reducible first|exact HB.out|apply qb_|apply qa_|apply qc_|refine qh_ ?_ GE898.out)|exact HB.out)) hb);clear BK898;clear HB;have HO903:=n0_;have BK898:=n1_;have HB:=n2_;clear n0_ n1_ n2_;(try clear hb);(try clear hb2);(try clear hk);(try clear hi);(try clear ho0))|((with_reducible refine qf1_ (N:=7) rfl ?_);refine qg1_ ?hg (N:=7) ?hd (cs:=#[.int .i64 0,.int .i64 0,.slice none 0 0]) (t:=38) ?hr ?_;(case hd=>rfl);(case hg=>rfl);(case hr=>first|(go_simp;done)|(go_simp;rfl));intro gb904 hg w7 hbox hb;have n0_:=aK (Kd.qe2_ (by (with_reducible repeat (first|apply Kd.qc1_|apply Kd.qm1_|apply Kd.R_drew));exact HO903.out) hb);have n1_:=aK (ql_ (g:=gb898) (o:=.cells #[.int .i64 0,.int .i64 0,.slice none 0 0] 38 (0,0)) (by (with_reducible repeat (first|refine qg_ ?_ _|refine qi_ ?_|refine qf_ ?_ _));exact BK898.out) hb);have n2_:=aK (qe_ (by repeat (first|(with_reducible first|exact HB.out|apply qb_|apply qa_|apply qc_|refine qh_ ?_ GE898.out)|exact HB.out)) hb);have n3_:=aK (hbox);have n4_:=aK ((by rw [hg];exact (qk_ (by repeat (first|(with_reducible first|exact HB.out|apply qb_|apply qa_|apply qc_|refine qh_ ?_ GE898.out)|exact HB.out))):w.heap.size≤gb904));have n5_:=aK ((by rw [hg];exact (qk_ (by repeat (first|(with_reducible first|exact HB.out|apply qb_|apply qa_|apply qc_|refine qh_ ?_ GE898.out)|exact HB.out))):w.heap.size≤gb904));have n6_:=aK ((by rw [hg];exact Nat.ne_of_lt (blk_lt (g:=gb898) (o:=.cells #[.int .i64 0,.int .i64 0,.slice none 0 0] 38 (0,0)) (by (with_reducible repeat (first|refine qg_ ?_ _|refine qi_ ?_|refine qf_ ?_ _));exact BK898.out)):gb898 ≠ gb904));have n7_:=aK ((by rw [hg];exact Nat.ne_of_gt (blk_lt (g:=gb898) (o:=.cells #[.int .i64 0,.int .i64 0,.slice none 0 0] 38 (0,0)) (by (with_reducible repeat (first|refine qg_ ?_ _|refine qi_ ?_|refine qf_ ?_ _));exact BK898.out)):gb904 ≠ gb898));clear HO903;clear BK898;clear HB;have HO903:=n0_;have BK898:=n1_;have HB:=n2_;have BK904:=n3_;have GW904:=n4_;have GE904:=n5_;have NB898_904:=n6_;have NB904_898:=n7_;clear n0_ n1_ n2_ n3_ n4_ n5_ n6_ n7_;clear hb hbox hg;have hnb8:=NB904_898.out;have hnc8:=NB898_904.out;have hcz9_0:w7.cell? ⟨gb904,0,none⟩=some (.int .i64 0):=(qj_ BK904.out 0).trans rfl;have hcz9_1:w7.cell? ⟨gb904,1,none⟩=some (.int .i64 0):=(qj_ BK904.out 1).trans rfl;have hcz9_2:w7.cell? ⟨gb904,2,none⟩=some (.slice none 0 0):=(qj_ BK904.out 2).trans rfl;have hfz9_0:=qd_ BK904.out 0;have hfz9_1:=qd_ BK904.out 1;have hfz9_2:=qd_ BK904.out 2;obtain ⟨Ao10,co10,eo10⟩:=Kd.qa2_ HO903.out;subst eo10))
 go_loopg [8] k (fun kq v8 w'=>∃ (x8_1:Int) (x905002_1:List (S79)) (u905002:Value),v8=.int .i64 x8_1∧Aside0 (qa1_.l0 kq a0 l2 x8_1 t899 t900 x905002_1=some (r1,r2,r3))∧Aside0 (kq≤k)∧Aside0 (Kd.R k79 79 w' w.heap.size (fun _=>True) u905002 x905002_1)∧Aside0 (w'.heap[gb898]?=some (.cells #[.int .i64 0,.int .i64 0,(.slice none 0 0)] 38 (0,0)))∧Aside0 (w'.heap[gb904]?=some (.cells #[.int .i64 t899,.int .i64 t900,u905002] 38 (0,0)))∧Aside0 (Below w.heap.size w w'))
 case atStart=>exact ⟨(0),(t901),(.slice Ao10 t901.length co10),(by first|rfl|(simp;done)|(simp [*];done)),H',⟨Nat.le_refl _⟩,⟨by (with_reducible repeat (first|apply Kd.qc1_|apply Kd.qm1_|apply Kd.R_drew));exact Kd.R_mono (Kd.R_far (p:=⟨gb904,2,none⟩) (Kd.R_far (p:=⟨gb904,1,none⟩) (Kd.R_far (p:=⟨gb904,0,none⟩) (Kd.R_types HO903.out BK904.out (by decide)) (fun _ hk=>hk.2) (.int .i64 t899)) (fun _ hk=>hk.2) (.int .i64 t900)) (fun _ hk=>hk.2) (.slice Ao10 t901.length co10)) (fun _ hk=>trivial)⟩,⟨by (with_reducible repeat (first|refine qg_ ?_ _|refine qi_ ?_|refine qf_ ?_ _));refine qb2_ ?_ NB898_904.out _;(with_reducible repeat (first|refine qg_ ?_ _|refine qi_ ?_|refine qf_ ?_ _));refine qb2_ ?_ NB898_904.out _;(with_reducible repeat (first|refine qg_ ?_ _|refine qi_ ?_|refine qf_ ?_ _));refine qb2_ ?_ NB898_904.out _;(with_reducible repeat (first|refine qg_ ?_ _|refine qi_ ?_|refine qf_ ?_ _));exact BK898.out⟩,⟨by (with_reducible repeat (first|refine qg_ ?_ _|refine qi_ ?_|refine qf_ ?_ _));refine qz1_ (cs:=#[.int .i64 t899,.int .i64 t900,.slice none 0 0]) ?_ 2 _ rfl;(with_reducible repeat (first|refine qg_ ?_ _|refine qi_ ?_|refine qf_ ?_ _));refine qz1_ (cs:=#[.int .i64 t899,.int .i64 0,.slice none 0 0]) ?_ 1 _ rfl;(with_reducible repeat (first|refine qg_ ?_ _|refine qi_ ?_|refine qf_ ?_ _));refine qz1_ (cs:=#[.int .i64 0,.int .i64 0,.slice none 0 0]) ?_ 0 _ rfl;(with_reducible repeat (first|refine qg_ ?_ _|refine qi_ ?_|refine qf_ ?_ _));exact BK904.out⟩,⟨by repeat (first|(with_reducible first|exact HB.out|apply qb_|apply qa_|apply qc_|refine qh_ ?_ GE898.out|refine qh_ ?_ GE904.out)|exact HB.out)⟩⟩
 case round =>
  clear H'
  try clear c1
  try clear c2
  try clear p2
  try clear c8
  try clear c10
  try clear hcz9_0
  try clear hcz9_1
  try clear hcz9_2
  try clear hfz9_0
  try clear hfz9_1
  try clear hfz9_2
  obtain ⟨x8_1,x905002_1,u905002,rfl,HA,HK1,HO_905002,BK898,BK904,HB⟩:=hrel
  cases gk with
  | zero=>exact absurd HA.out (by simp [qa1_.l0])
  | succ k1 =>
   have H:=HA.out
   clear HA
   simp only [qa1_.l0] at H
   by_cases c11:x8_1 < a0
   ·rw [if_pos c11] at H
    have c11b0:decide (x8_1 < a0)=true:=decide_eq_true c11
    clear c11
    by_cases c12:0≤x8_1
    ·rw [if_pos c12] at H
     have c12b0:decide (0≤x8_1)=true:=decide_eq_true c12
     clear c12
     by_cases c13:x8_1 < (l2.length:Int)
     ·rw [if_pos c13] at H
      have c13b0:decide (x8_1 < (l2.length:Int))=true:=decide_eq_true c13
      clear c13
      by_cases c14:(rd l2 x8_1)=0
      ·rw [if_pos c14] at H
       have c14b0:((rd l2 x8_1) == 0)=true:=beq_iff_eq.mpr c14
       have c14b1:((rd l2 x8_1) != 0)=false:=bne_eq_false_iff_eq.mpr c14
       clear c14
       have H':=aK H
       clear H
       have p905:0≤(x8_1:Int):=of_decide_eq_true (by first|(with_reducible assumption)|assumption)
       have q905:x8_1 < (l2.length:Int):=of_decide_eq_true (by first|(with_reducible assumption)|assumption)
       obtain ⟨ad905,e905,hx905_0⟩:=Kd.at_int HR2.out x8_1 p905 q905
       cases e905
       replace hx905_0:=(HB.out.cell (World.block_lt_of_cell? w _ hx905_0)).trans hx905_0
       replace p905:=eq_true p905
       replace q905:=eq_true q905
       go_wp2
       go_roundg k1
       case measure=>have:=HK1.out;omega
       case rel=>exact ⟨(wrap64 (x8_1+1)),(x905002_1),(u905002),(by first|rfl|(simp;done)|(simp [*];done)),H',⟨by have:=HK1.out;omega⟩,⟨by (with_reducible repeat (first|apply Kd.qc1_|apply Kd.qm1_|apply Kd.R_drew));exact HO_905002.out⟩,⟨by (with_reducible repeat (first|refine qg_ ?_ _|refine qi_ ?_|refine qf_ ?_ _));exact BK898.out⟩,⟨by (with_reducible repeat (first|refine qg_ ?_ _|refine qi_ ?_|refine qf_ ?_ _));exact BK904.out⟩,⟨by repeat (first|(with_reducible first|exact HB.out|apply qb_|apply qa_|apply qc_|refine qh_ ?_ GE898.out|refine qh_ ?_ GE904.out)|exact HB.out)⟩⟩
      ·rw [if_neg c14] at H
       have c14b0:((rd l2 x8_1) == 0)=false:=beq_eq_false_iff_ne.mpr c14
       have c14b1:((rd l2 x8_1) != 0)=true:=bne_iff_ne.mpr c14
       obtain ⟨y906,hy906⟩:∃ y_:List Int,y_=(([(wrap64 (48+x8_1)) % 256]:List Int)):=⟨_,rfl⟩
       replace H:((qt2_.f (rd l2 x8_1)).bind fun bt910=>(if x905002_1.length < 4398046511104 then (qa1_.l0 k1 a0 l2 (wrap64 (x8_1+1)) t899 t900 (x905002_1 ++ [(⟨strOfNums y906,(⟨bt910.1,bt910.2⟩:S77)⟩:S79)])) else (none)))=some (r1,r2,r3):=by first|(rw [hy906];with_reducible exact H)|(have H2_:=(Option.bind_some _ _).symm.trans H;rw [hy906];with_reducible exact H2_)|(have H2_:=(Option.bind_some _ _).symm.trans H;with_reducible exact H2_)|with_reducible exact H|(rw [hy906];exact H)|exact H
       have Ny906:=aK hy906
       clear hy906
       replace H:=Option.bind_eq_some_iff.mp H
       obtain ⟨⟨t910,t911⟩,A150,H⟩:=H
       replace H:(if x905002_1.length < 4398046511104 then (qa1_.l0 k1 a0 l2 (wrap64 (x8_1+1)) t899 t900 (x905002_1 ++ [(⟨strOfNums y906,(⟨t910,t911⟩:S77)⟩:S79)])) else (none))=some (r1,r2,r3):=H
       have A15:=aK A150
       clear A150
       by_cases c16:x905002_1.length < 4398046511104
       ·rw [if_pos c16] at H
        have LMc16:=aK c16
        clear c16
        obtain ⟨y912,hy912⟩:∃ y_:List (S79),y_=(x905002_1 ++ [(⟨strOfNums y906,(⟨t910,t911⟩:S77)⟩:S79)]):=⟨_,rfl⟩
        replace H:(qa1_.l0 k1 a0 l2 (wrap64 (x8_1+1)) t899 t900 y912)=some (r1,r2,r3):=by first|(rw [hy912];with_reducible exact H)|(have H2_:=(Option.bind_some _ _).symm.trans H;rw [hy912];with_reducible exact H2_)|(have H2_:=(Option.bind_some _ _).symm.trans H;with_reducible exact H2_)|with_reducible exact H|(rw [hy912];exact H)|exact H
        have Ny912:=aK hy912
        clear hy912
        have H':=aK H
        clear H
        have p905:0≤(x8_1:Int):=of_decide_eq_true (by first|(with_reducible assumption)|assumption)
        have q905:x8_1 < (l2.length:Int):=of_decide_eq_true (by first|(with_reducible assumption)|assumption)
        obtain ⟨ad905,e905,hx905_0⟩:=Kd.at_int HR2.out x8_1 p905 q905
        cases e905
        replace hx905_0:=(HB.out.cell (World.block_lt_of_cell? w _ hx905_0)).trans hx905_0
        replace p905:=eq_true p905
        replace q905:=eq_true q905
        obtain ⟨Ao17,co17,eo17⟩:=Kd.qa2_ HO_905002.out
        subst eo17
        try go_wp2
        have n0_:=aK (Kd.R_drew HO_905002.out)
        have n1_:=aK (qi_ BK898.out)
        have n2_:=aK (qi_ BK904.out)
        have n3_:=aK (qc_ HB.out)
        clear HO_905002
        clear BK898
        clear BK904
        clear HB
        have HO_905002:=n0_
        have BK898:=n1_
        have BK904:=n2_
        have HB:=n3_
        clear n0_ n1_ n2_ n3_
        have p909:0≤(x8_1:Int):=of_decide_eq_true (by first|(with_reducible assumption)|assumption)
        have q909:x8_1 < (l2.length:Int):=of_decide_eq_true (by first|(with_reducible assumption)|assumption)
        obtain ⟨ad909,e909,hx909_0⟩:=Kd.at_int HR2.out x8_1 p909 q909
        have hw909_0:=hx909_0
        obtain rfl:ad905=ad909:=(by injection e909)
        replace hx909_0:=(HB.out.cell (World.block_lt_of_cell? w _ hx909_0)).trans hx909_0
        replace p909:=eq_true p909
        replace q909:=eq_true q909
        refine start_ (n:=17) (S:=fun w'=>w'.cell? ⟨gb904,0,none⟩=some (.int .i64 t899)∧w'.cell? ⟨gb904,1,none⟩=some (.int .i64 t900)∧w'.cell? ⟨gb904,2,none⟩=some (.slice Ao17 x905002_1.length co17)∧w'.cell? (ad905.add (x8_1).toNat)=some (.int .i64 (rd l2 x8_1))) (ds:=[16]) #[fF,fF,fF,fF,fF,fF,fF,fF,fF,fF,fF,fF,fF,fF,fF,fF,fF] (by kernel_rfl) rfl rfl ⟨(qj_ BK904.out 0).trans rfl,(qj_ BK904.out 1).trans rfl,(qj_ BK904.out 2).trans rfl,((HB.out.cell (World.block_lt_of_cell? w _ hw909_0)).trans hw909_0)⟩ (fun hHeld=>?_);refine with_tabW qa1_.tab6 qa1_.bits6 (fun HT_ HW_=>?_)
        generalize wr.drew=w18 at HO_905002 BK898 BK904 HB hx909_0 hHeld ⊢
        refine pure_ (i:=0) (N:=some 23) (v:=?_) (a':=?_) #[tT,fF,fF,fF,fF,fF,fF,fF,fF,fF,fF,fF,fF,fF,fF,fF,fF] rfl rfl (any_of HT_.out (by kernel_rfl)) (fun _ _ _ h=>h) (Or.inl ⟨by rfl,?_⟩) ?_ ?_
        rotate_left
        ·intro w'
         go_simp
         with_reducible rfl
        rotate_left
        ·simp only [Act.put,List.setIfInBounds_toArray,List.set_cons_zero,List.set_cons_succ,i64_w,i32_w]
         rfl
        refine pure_ (i:=2) (N:=some 25) (v:=?_) (a':=?_) #[tT,fF,tT,fF,fF,fF,fF,fF,fF,fF,fF,fF,fF,fF,fF,fF,fF] rfl rfl (any_of HT_.out (by kernel_rfl)) (fun _ _ _ h=>h) (Or.inl ⟨by rfl,?_⟩) ?_ ?_
        rotate_left
        ·intro w'
         go_simp
         with_reducible rfl
        rotate_left
        ·simp only [Act.put,List.setIfInBounds_toArray,List.set_cons_zero,List.set_cons_succ,i64_w,i32_w]
         rfl
        refine pure_ (i:=3) (N:=some 26) (v:=?_) (a':=?_) #[tT,fF,tT,tT,fF,fF,fF,fF,fF,fF,fF,fF,fF,fF,fF,fF,fF] rfl rfl (any_of HT_.out (by kernel_rfl)) (fun _ _ _ h=>h) (Or.inl ⟨by rfl,?_⟩) ?_ ?_
        rotate_left
        ·intro w'
         go_simp
         with_reducible rfl
        rotate_left
        ·simp only [Act.put,List.setIfInBounds_toArray,List.set_cons_zero,List.set_cons_succ,i64_w,i32_w]
         rfl
        refine pure_ (i:=4) (N:=some 27) (v:=?_) (a':=?_) #[tT,fF,tT,tT,tT,fF,fF,fF,fF,fF,fF,fF,fF,fF,fF,fF,fF] rfl rfl (any_of HT_.out (by kernel_rfl)) (fun _ _ _ h=>h) (Or.inl ⟨by rfl,?_⟩) ?_ ?_
        rotate_left
        ·intro w'
         go_simp
         with_reducible rfl
        rotate_left
        ·simp only [Act.put,List.setIfInBounds_toArray,List.set_cons_zero,List.set_cons_succ,i64_w,i32_w]
         rfl
        refine pure_ (i:=7) (N:=some 30) (v:=?_) (a':=?_) #[tT,fF,tT,tT,tT,fF,fF,tT,fF,fF,fF,fF,fF,fF,fF,fF,fF] rfl rfl (any_of HT_.out (by kernel_rfl)) (fun _ _ _ h=>h) (Or.inl ⟨by rfl,?_⟩) ?_ ?_
        rotate_left
        ·intro w'
         go_simp
         with_reducible rfl
        rotate_left
        ·simp only [Act.put,List.setIfInBounds_toArray,List.set_cons_zero,List.set_cons_succ,i64_w,i32_w]
         rfl
        refine pure_ (i:=8) (N:=some 31) (v:=?_) (a':=?_) #[tT,fF,tT,tT,tT,fF,fF,tT,tT,fF,fF,fF,fF,fF,fF,fF,fF] rfl rfl (any_of HT_.out (by kernel_rfl)) (fun _ _ _ h=>h) (Or.inl ⟨by rfl,?_⟩) ?_ ?_
        rotate_left
        ·intro w'
         go_simp
         with_reducible rfl
        rotate_left
        ·simp only [Act.put,List.setIfInBounds_toArray,List.set_cons_zero,List.set_cons_succ,i64_w,i32_w]
         rfl
        refine pure_ (i:=9) (N:=some 32) (v:=?_) (a':=?_) #[tT,fF,tT,tT,tT,fF,fF,tT,tT,tT,fF,fF,fF,fF,fF,fF,fF] rfl rfl (any_of HT_.out (by kernel_rfl)) (fun _ _ _ h=>h) (Or.inl ⟨by rfl,?_⟩) ?_ ?_
        rotate_left
        ·intro w'
         go_simp
         with_reducible rfl
        rotate_left
        ·simp only [Act.put,List.setIfInBounds_toArray,List.set_cons_zero,List.set_cons_succ,i64_w,i32_w]
         rfl
        refine take_ (i:=1) (N:=some 24) (v:=?_) (a':=?_) #[tT,tT,tT,tT,tT,fF,fF,tT,tT,tT,fF,fF,fF,fF,fF,fF,fF] rfl rfl (take_ofW HT_.out HW_.out (by kernel_rfl)) (fun _ _ _ h=>h) (Or.inl ⟨by rfl,?_⟩) hHeld ?_ ?_
        rotate_left
        ·rintro w' ⟨s0,s1,s2,s3⟩
         go_simp
         with_reducible rfl
        rotate_left
        ·simp only [Act.put,List.setIfInBounds_toArray,List.set_cons_zero,List.set_cons_succ,i64_w,i32_w]
         rfl
        refine take_ (i:=10) (N:=some 33) (v:=?_) (a':=?_) #[tT,tT,tT,tT,tT,fF,fF,tT,tT,tT,tT,fF,fF,fF,fF,fF,fF] rfl rfl (take_ofW HT_.out HW_.out (by kernel_rfl)) (fun _ _ _ h=>h) (Or.inl ⟨by rfl,?_⟩) hHeld ?_ ?_
        rotate_left
        ·rintro w' ⟨s0,s1,s2,s3⟩
         go_simp
         with_reducible rfl
        rotate_left
        ·simp only [Act.put,List.setIfInBounds_toArray,List.set_cons_zero,List.set_cons_succ,i64_w,i32_w]
         rfl
        refine join_ (σ:=Value) 5 #[tT,tT,tT,tT,tT,tT,tT,tT,tT,tT,tT,tT,fF,fF,fF,fF,fF] (fun s_=>[(28,s_),(29,.string (strOfNums y906)),(34,.agg #[.int .i64 t910,.int .i64 t911])]) (fun s_ w'=>(w'.cell? ⟨gb904,0,none⟩=some (.int .i64 t899)∧w'.cell? ⟨gb904,1,none⟩=some (.int .i64 t900)∧w'.cell? ⟨gb904,2,none⟩=some (.slice Ao17 x905002_1.length co17)∧w'.cell? (ad905.add (x8_1).toNat)=some (.int .i64 (rd l2 x8_1)))∧(Kd.R (Kd.int .u8) 5 w' w.heap.size (fun _=>True) s_ y906)∧(Kd.R k79 79 w' w.heap.size (fun _=>True) (.slice Ao17 x905002_1.length co17) x905002_1)∧(w'.heap[gb898]?=some (.cells #[.int .i64 0,.int .i64 0,.slice none 0 0] 38 (0,0)))∧(w'.heap[gb904]?=some (.cells #[.int .i64 t899,.int .i64 t900,.slice Ao17 x905002_1.length co17] 38 (0,0)))∧(Below w.heap.size w w')) ?_ ?_
        rotate_left
        ·intro hCont
         refine two_ (i:=5) (j:=11) (Ni:=some 28) (Nj:=some 34) #[tT,tT,tT,tT,tT,tT,fF,tT,tT,tT,tT,fF,fF,fF,fF,fF,fF] #[tT,tT,tT,tT,tT,fF,fF,tT,tT,tT,tT,tT,fF,fF,fF,fF,fF] rfl rfl rfl rfl (two_of HT_.out (by kernel_rfl)) (by decide) (by decide) (fun K hK=>?_) (fun K hK=>?_)
         ·skip
          refine Kd.R_lit_step (Kd.int .u8) _ 5 ?hg (N:=28) ?hd (xs:=([(wrap64 (48+x8_1)) % 256]:List Int)) (inner:=[.int .u8 ((wrap64 (48+x8_1)) % 256)]) (ok:=fun _=>True) (okp:=fun _=>True) ?hr ?hp (fun _ hk=>hk) trivial (Below.refl _ _) (Nat.le_refl _) (by simp) ?_;(case hd=>rfl);(case hg=>rfl);(case hr=>first|(go_simp;done)|(go_simp;rfl));(case hp=>exact (Reps.one (show Kd.M (Kd.int .u8) _ _ _ ((wrap64 (48+x8_1)) % 256) [.int .u8 ((wrap64 (48+x8_1)) % 256)] from rfl) (Reps.none _ _)))
          intro v907 w19 ho20 hb hg_ hnew_
          clear hg_ hnew_
          (first|rw [← Ny906.out] at ho20|(simp only [Int.reduceToNat] at ho20;rw [← Ny906.out] at ho20))
          have n0_:=aK (Kd.qe2_ (by (with_reducible repeat (first|apply Kd.qc1_|apply Kd.qm1_|apply Kd.R_drew));exact HO_905002.out) hb)
          have n1_:=aK (Kd.qi2_ ho20 (qk_ (by repeat (first|(with_reducible first|exact HB.out|apply qb_|apply qa_|apply qc_|refine qh_ ?_ GE898.out|refine qh_ ?_ GE904.out)|exact HB.out))))
          have n2_:=aK (ql_ (g:=gb898) (o:=.cells #[.int .i64 0,.int .i64 0,.slice none 0 0] 38 (0,0)) (by (with_reducible repeat (first|refine qg_ ?_ _|refine qi_ ?_|refine qf_ ?_ _));exact BK898.out) hb)
          have n3_:=aK (ql_ (g:=gb904) (o:=.cells #[.int .i64 t899,.int .i64 t900,.slice Ao17 x905002_1.length co17] 38 (0,0)) (by (with_reducible repeat (first|refine qg_ ?_ _|refine qi_ ?_|refine qf_ ?_ _));exact BK904.out) hb)
          have n4_:=aK (qe_ (by repeat (first|(with_reducible first|exact HB.out|apply qb_|apply qa_|apply qc_|refine qh_ ?_ GE898.out|refine qh_ ?_ GE904.out)|exact HB.out)) hb)
          clear HO_905002
          clear BK898
          clear BK904
          clear HB
          have HO_905002:=n0_
          have HO908:=n1_
          have BK898:=n2_
          have BK904:=n3_
          have HB:=n4_
          clear n0_ n1_ n2_ n3_ n4_
          clear hb ho20
          refine hK.out _ _ ⟨(qj_ BK904.out 0).trans rfl,(qj_ BK904.out 1).trans rfl,(qj_ BK904.out 2).trans rfl,((HB.out.cell (World.block_lt_of_cell? w _ hw909_0)).trans hw909_0)⟩ (fun hHeld=>?_)
          clear hK K
          refine norm_ (a':=?_) ?_ ?_
          rotate_left
          ·show Act.put _ (some 28) _=_
           simp only [Act.put,List.setIfInBounds_toArray,List.set_cons_zero,List.set_cons_succ,i64_w,i32_w]
           rfl
          refine two_ (i:=6) (j:=11) (Ni:=some 29) (Nj:=some 34) #[tT,tT,tT,tT,tT,tT,tT,tT,tT,tT,tT,fF,fF,fF,fF,fF,fF] #[tT,tT,tT,tT,tT,tT,fF,tT,tT,tT,tT,tT,fF,fF,fF,fF,fF] rfl rfl rfl rfl (two_of HT_.out (by kernel_rfl)) (by decide) (by decide) (fun K hK=>?_) (fun K hK=>?_)
          ·skip
           have hcv21:=own_string (P:=Try.prog) Try.underlying140 Try.underlying5 Try.underlying9 (Kd.own_of_R HO908.out)
           refine value_ (w1:=?_) (v:=?_) (by rfl) rfl ?_ ?_
           rotate_left 2
           ·go_simp
            constructor
            ·rfl
            ·rfl
           clear hcv21
           refine hK.out _ _ ⟨(qj_ BK904.out 0).trans rfl,(qj_ BK904.out 1).trans rfl,(qj_ BK904.out 2).trans rfl,((HB.out.cell (World.block_lt_of_cell? w _ hw909_0)).trans hw909_0)⟩ (fun hHeld=>?_)
           clear hK K
           refine norm_ (a':=?_) ?_ ?_
           rotate_left
           ·show Act.put _ (some 29) _=_
            simp only [Act.put,List.setIfInBounds_toArray,List.set_cons_zero,List.set_cons_succ,i64_w,i32_w]
            rfl
           refine one_ (i:=11) (N:=some 34) #[tT,tT,tT,tT,tT,tT,tT,tT,tT,tT,tT,tT,fF,fF,fF,fF,fF] rfl rfl (one_of HT_.out (by kernel_rfl)) (by decide) (fun K hK=>?_)
           refine goes_ Try.func124 (by kernel_rfl) rfl #[.int .i64 (rd l2 x8_1)] (by rfl) rfl rfl (by (try simp only [List.map_toArray,List.map_cons,List.map_nil]);first|done|rfl|(simp only [List.length_drop,List.length_take];rfl)) ?_
           with_reducible refine (qt2_.calls (rd l2 x8_1) t910 t911 _ A15.out).mono ?_
           rintro e w22 ⟨rfl,hb⟩
           refine ⟨_,rfl,?_⟩
           have n0_:=aK (Kd.qe2_ (by (with_reducible repeat (first|apply Kd.qc1_|apply Kd.qm1_|apply Kd.R_drew));exact HO_905002.out) hb)
           have n1_:=aK (Kd.qe2_ (by (with_reducible repeat (first|apply Kd.qc1_|apply Kd.qm1_|apply Kd.R_drew));exact HO908.out) hb)
           have n2_:=aK (ql_ (g:=gb898) (o:=.cells #[.int .i64 0,.int .i64 0,.slice none 0 0] 38 (0,0)) (by (with_reducible repeat (first|refine qg_ ?_ _|refine qi_ ?_|refine qf_ ?_ _));exact BK898.out) hb)
           have n3_:=aK (ql_ (g:=gb904) (o:=.cells #[.int .i64 t899,.int .i64 t900,.slice Ao17 x905002_1.length co17] 38 (0,0)) (by (with_reducible repeat (first|refine qg_ ?_ _|refine qi_ ?_|refine qf_ ?_ _));exact BK904.out) hb)
           have n4_:=aK (qe_ (by repeat (first|(with_reducible first|exact HB.out|apply qb_|apply qa_|apply qc_|refine qh_ ?_ GE898.out|refine qh_ ?_ GE904.out)|exact HB.out)) hb)
           clear HO_905002
           clear HO908
           clear BK898
           clear BK904
           clear HB
           have HO_905002:=n0_
           have HO908:=n1_
           have BK898:=n2_
           have BK904:=n3_
           have HB:=n4_
           clear n0_ n1_ n2_ n3_ n4_
           (try clear hb)
           (try clear hb2)
           (try clear hk)
           (try clear hi)
           refine hK.out _ _ ⟨(qj_ BK904.out 0).trans rfl,(qj_ BK904.out 1).trans rfl,(qj_ BK904.out 2).trans rfl,((HB.out.cell (World.block_lt_of_cell? w _ hw909_0)).trans hw909_0)⟩ (fun hHeld=>?_)
           clear hK K
           refine norm_ (a':=?_) ?_ ?_
           rotate_left
           ·show Act.put _ (some 34) _=_
            simp only [Act.put,List.setIfInBounds_toArray,List.set_cons_zero,List.set_cons_succ,i64_w,i32_w]
            rfl
           exact norm_ (by simp only [putAll,Act.put,List.setIfInBounds_toArray,List.set_cons_zero,List.set_cons_succ]) (hCont (v907) _ ⟨hHeld,(by (with_reducible repeat (first|apply Kd.qc1_|apply Kd.qm1_|apply Kd.R_drew));exact HO908.out),(by (with_reducible repeat (first|apply Kd.qc1_|apply Kd.qm1_|apply Kd.R_drew));exact HO_905002.out),(by (with_reducible repeat (first|refine qg_ ?_ _|refine qi_ ?_|refine qf_ ?_ _));exact BK898.out),(by (with_reducible repeat (first|refine qg_ ?_ _|refine qi_ ?_|refine qf_ ?_ _));exact BK904.out),(by repeat (first|(with_reducible first|exact HB.out|apply qb_|apply qa_|apply qc_|refine qh_ ?_ GE898.out|refine qh_ ?_ GE904.out)|exact HB.out))⟩)
          ·skip
           refine goes_ Try.func124 (by kernel_rfl) rfl #[.int .i64 (rd l2 x8_1)] (by rfl) rfl rfl (by (try simp only [List.map_toArray,List.map_cons,List.map_nil]);first|done|rfl|(simp only [List.length_drop,List.length_take];rfl)) ?_
           with_reducible refine (qt2_.calls (rd l2 x8_1) t910 t911 _ A15.out).mono ?_
           rintro e w21 ⟨rfl,hb⟩
           refine ⟨_,rfl,?_⟩
           have n0_:=aK (Kd.qe2_ (by (with_reducible repeat (first|apply Kd.qc1_|apply Kd.qm1_|apply Kd.R_drew));exact HO_905002.out) hb)
           have n1_:=aK (Kd.qe2_ (by (with_reducible repeat (first|apply Kd.qc1_|apply Kd.qm1_|apply Kd.R_drew));exact HO908.out) hb)
           have n2_:=aK (ql_ (g:=gb898) (o:=.cells #[.int .i64 0,.int .i64 0,.slice none 0 0] 38 (0,0)) (by (with_reducible repeat (first|refine qg_ ?_ _|refine qi_ ?_|refine qf_ ?_ _));exact BK898.out) hb)
           have n3_:=aK (ql_ (g:=gb904) (o:=.cells #[.int .i64 t899,.int .i64 t900,.slice Ao17 x905002_1.length co17] 38 (0,0)) (by (with_reducible repeat (first|refine qg_ ?_ _|refine qi_ ?_|refine qf_ ?_ _));exact BK904.out) hb)
           have n4_:=aK (qe_ (by repeat (first|(with_reducible first|exact HB.out|apply qb_|apply qa_|apply qc_|refine qh_ ?_ GE898.out|refine qh_ ?_ GE904.out)|exact HB.out)) hb)
           clear HO_905002
           clear HO908
           clear BK898
           clear BK904
           clear HB
           have HO_905002:=n0_
           have HO908:=n1_
           have BK898:=n2_
           have BK904:=n3_
           have HB:=n4_
           clear n0_ n1_ n2_ n3_ n4_
           (try clear hb)
           (try clear hb2)
           (try clear hk)
           (try clear hi)
           refine hK.out _ _ ⟨(qj_ BK904.out 0).trans rfl,(qj_ BK904.out 1).trans rfl,(qj_ BK904.out 2).trans rfl,((HB.out.cell (World.block_lt_of_cell? w _ hw909_0)).trans hw909_0)⟩ (fun hHeld=>?_)
           clear hK K
           refine norm_ (a':=?_) ?_ ?_
           rotate_left
           ·show Act.put _ (some 34) _=_
            simp only [Act.put,List.setIfInBounds_toArray,List.set_cons_zero,List.set_cons_succ,i64_w,i32_w]
            rfl
           refine one_ (i:=6) (N:=some 29) #[tT,tT,tT,tT,tT,tT,tT,tT,tT,tT,tT,tT,fF,fF,fF,fF,fF] rfl rfl (one_of HT_.out (by kernel_rfl)) (by decide) (fun K hK=>?_)
           have hcv22:=own_string (P:=Try.prog) Try.underlying140 Try.underlying5 Try.underlying9 (Kd.own_of_R HO908.out)
           refine value_ (w1:=?_) (v:=?_) (by rfl) rfl ?_ ?_
           rotate_left 2
           ·go_simp
            constructor
            ·rfl
            ·rfl
           clear hcv22
           refine hK.out _ _ ⟨(qj_ BK904.out 0).trans rfl,(qj_ BK904.out 1).trans rfl,(qj_ BK904.out 2).trans rfl,((HB.out.cell (World.block_lt_of_cell? w _ hw909_0)).trans hw909_0)⟩ (fun hHeld=>?_)
           clear hK K
           refine norm_ (a':=?_) ?_ ?_
           rotate_left
           ·show Act.put _ (some 29) _=_
            simp only [Act.put,List.setIfInBounds_toArray,List.set_cons_zero,List.set_cons_succ,i64_w,i32_w]
            rfl
           exact norm_ (by simp only [putAll,Act.put,List.setIfInBounds_toArray,List.set_cons_zero,List.set_cons_succ]) (hCont (v907) _ ⟨hHeld,(by (with_reducible repeat (first|apply Kd.qc1_|apply Kd.qm1_|apply Kd.R_drew));exact HO908.out),(by (with_reducible repeat (first|apply Kd.qc1_|apply Kd.qm1_|apply Kd.R_drew));exact HO_905002.out),(by (with_reducible repeat (first|refine qg_ ?_ _|refine qi_ ?_|refine qf_ ?_ _));exact BK898.out),(by (with_reducible repeat (first|refine qg_ ?_ _|refine qi_ ?_|refine qf_ ?_ _));exact BK904.out),(by repeat (first|(with_reducible first|exact HB.out|apply qb_|apply qa_|apply qc_|refine qh_ ?_ GE898.out|refine qh_ ?_ GE904.out)|exact HB.out))⟩)
         ·skip
          refine goes_ Try.func124 (by kernel_rfl) rfl #[.int .i64 (rd l2 x8_1)] (by rfl) rfl rfl (by (try simp only [List.map_toArray,List.map_cons,List.map_nil]);first|done|rfl|(simp only [List.length_drop,List.length_take];rfl)) ?_
          with_reducible refine (qt2_.calls (rd l2 x8_1) t910 t911 _ A15.out).mono ?_
          rintro e w19 ⟨rfl,hb⟩
          refine ⟨_,rfl,?_⟩
          have n0_:=aK (Kd.qe2_ (by (with_reducible repeat (first|apply Kd.qc1_|apply Kd.qm1_|apply Kd.R_drew));exact HO_905002.out) hb)
          have n1_:=aK (ql_ (g:=gb898) (o:=.cells #[.int .i64 0,.int .i64 0,.slice none 0 0] 38 (0,0)) (by (with_reducible repeat (first|refine qg_ ?_ _|refine qi_ ?_|refine qf_ ?_ _));exact BK898.out) hb)
          have n2_:=aK (ql_ (g:=gb904) (o:=.cells #[.int .i64 t899,.int .i64 t900,.slice Ao17 x905002_1.length co17] 38 (0,0)) (by (with_reducible repeat (first|refine qg_ ?_ _|refine qi_ ?_|refine qf_ ?_ _));exact BK904.out) hb)
          have n3_:=aK (qe_ (by repeat (first|(with_reducible first|exact HB.out|apply qb_|apply qa_|apply qc_|refine qh_ ?_ GE898.out|refine qh_ ?_ GE904.out)|exact HB.out)) hb)
          clear HO_905002
          clear BK898
          clear BK904
          clear HB
          have HO_905002:=n0_
          have BK898:=n1_
          have BK904:=n2_
          have HB:=n3_
          clear n0_ n1_ n2_ n3_
          (try clear hb)
          (try clear hb2)
          (try clear hk)
          (try clear hi)
          refine hK.out _ _ ⟨(qj_ BK904.out 0).trans rfl,(qj_ BK904.out 1).trans rfl,(qj_ BK904.out 2).trans rfl,((HB.out.cell (World.block_lt_of_cell? w _ hw909_0)).trans hw909_0)⟩ (fun hHeld=>?_)
          clear hK K
          refine norm_ (a':=?_) ?_ ?_
          rotate_left
          ·show Act.put _ (some 34) _=_
           simp only [Act.put,List.setIfInBounds_toArray,List.set_cons_zero,List.set_cons_succ,i64_w,i32_w]
           rfl
          refine one_ (i:=5) (N:=some 28) #[tT,tT,tT,tT,tT,tT,fF,tT,tT,tT,tT,tT,fF,fF,fF,fF,fF] rfl rfl (one_of HT_.out (by kernel_rfl)) (by decide) (fun K hK=>?_)
          refine Kd.R_lit_step (Kd.int .u8) _ 5 ?hg (N:=28) ?hd (xs:=([(wrap64 (48+x8_1)) % 256]:List Int)) (inner:=[.int .u8 ((wrap64 (48+x8_1)) % 256)]) (ok:=fun _=>True) (okp:=fun _=>True) ?hr ?hp (fun _ hk=>hk) trivial (Below.refl _ _) (Nat.le_refl _) (by simp) ?_;(case hd=>rfl);(case hg=>rfl);(case hr=>first|(go_simp;done)|(go_simp;rfl));(case hp=>exact (Reps.one (show Kd.M (Kd.int .u8) _ _ _ ((wrap64 (48+x8_1)) % 256) [.int .u8 ((wrap64 (48+x8_1)) % 256)] from rfl) (Reps.none _ _)))
          intro v907 w20 ho21 hb hg_ hnew_
          clear hg_ hnew_
          (first|rw [← Ny906.out] at ho21|(simp only [Int.reduceToNat] at ho21;rw [← Ny906.out] at ho21))
          have n0_:=aK (Kd.qe2_ (by (with_reducible repeat (first|apply Kd.qc1_|apply Kd.qm1_|apply Kd.R_drew));exact HO_905002.out) hb)
          have n1_:=aK (Kd.qi2_ ho21 (qk_ (by repeat (first|(with_reducible first|exact HB.out|apply qb_|apply qa_|apply qc_|refine qh_ ?_ GE898.out|refine qh_ ?_ GE904.out)|exact HB.out))))
          have n2_:=aK (ql_ (g:=gb898) (o:=.cells #[.int .i64 0,.int .i64 0,.slice none 0 0] 38 (0,0)) (by (with_reducible repeat (first|refine qg_ ?_ _|refine qi_ ?_|refine qf_ ?_ _));exact BK898.out) hb)
          have n3_:=aK (ql_ (g:=gb904) (o:=.cells #[.int .i64 t899,.int .i64 t900,.slice Ao17 x905002_1.length co17] 38 (0,0)) (by (with_reducible repeat (first|refine qg_ ?_ _|refine qi_ ?_|refine qf_ ?_ _));exact BK904.out) hb)
          have n4_:=aK (qe_ (by repeat (first|(with_reducible first|exact HB.out|apply qb_|apply qa_|apply qc_|refine qh_ ?_ GE898.out|refine qh_ ?_ GE904.out)|exact HB.out)) hb)
          clear HO_905002
          clear BK898
          clear BK904
          clear HB
          have HO_905002:=n0_
          have HO908:=n1_
          have BK898:=n2_
          have BK904:=n3_
          have HB:=n4_
          clear n0_ n1_ n2_ n3_ n4_
          clear hb ho21
          refine hK.out _ _ ⟨(qj_ BK904.out 0).trans rfl,(qj_ BK904.out 1).trans rfl,(qj_ BK904.out 2).trans rfl,((HB.out.cell (World.block_lt_of_cell? w _ hw909_0)).trans hw909_0)⟩ (fun hHeld=>?_)
          clear hK K
          refine norm_ (a':=?_) ?_ ?_
          rotate_left
          ·show Act.put _ (some 28) _=_
           simp only [Act.put,List.setIfInBounds_toArray,List.set_cons_zero,List.set_cons_succ,i64_w,i32_w]
           rfl
          refine one_ (i:=6) (N:=some 29) #[tT,tT,tT,tT,tT,tT,tT,tT,tT,tT,tT,tT,fF,fF,fF,fF,fF] rfl rfl (one_of HT_.out (by kernel_rfl)) (by decide) (fun K hK=>?_)
          have hcv22:=own_string (P:=Try.prog) Try.underlying140 Try.underlying5 Try.underlying9 (Kd.own_of_R HO908.out)
          refine value_ (w1:=?_) (v:=?_) (by rfl) rfl ?_ ?_
          rotate_left 2
          ·go_simp
           constructor
           ·rfl
           ·rfl
          clear hcv22
          refine hK.out _ _ ⟨(qj_ BK904.out 0).trans rfl,(qj_ BK904.out 1).trans rfl,(qj_ BK904.out 2).trans rfl,((HB.out.cell (World.block_lt_of_cell? w _ hw909_0)).trans hw909_0)⟩ (fun hHeld=>?_)
          clear hK K
          refine norm_ (a':=?_) ?_ ?_
          rotate_left
          ·show Act.put _ (some 29) _=_
           simp only [Act.put,List.setIfInBounds_toArray,List.set_cons_zero,List.set_cons_succ,i64_w,i32_w]
           rfl
          exact norm_ (by simp only [putAll,Act.put,List.setIfInBounds_toArray,List.set_cons_zero,List.set_cons_succ]) (hCont (v907) _ ⟨hHeld,(by (with_reducible repeat (first|apply Kd.qc1_|apply Kd.qm1_|apply Kd.R_drew));exact HO908.out),(by (with_reducible repeat (first|apply Kd.qc1_|apply Kd.qm1_|apply Kd.R_drew));exact HO_905002.out),(by (with_reducible repeat (first|refine qg_ ?_ _|refine qi_ ?_|refine qf_ ?_ _));exact BK898.out),(by (with_reducible repeat (first|refine qg_ ?_ _|refine qi_ ?_|refine qf_ ?_ _));exact BK904.out),(by repeat (first|(with_reducible first|exact HB.out|apply qb_|apply qa_|apply qc_|refine qh_ ?_ GE898.out|refine qh_ ?_ GE904.out)|exact HB.out))⟩)
        rintro v907 w23 ⟨hS_,h0_,h1_,h2_,h3_,h4_⟩
        have n0_:Aside0 (Kd.R (Kd.int .u8) 5 w23 w.heap.size (fun _=>True) v907 y906):=⟨h0_⟩
        have n1_:Aside0 (Kd.R k79 79 w23 w.heap.size (fun _=>True) (.slice Ao17 x905002_1.length co17) x905002_1):=⟨h1_⟩
        have n2_:Aside0 (w23.heap[gb898]?=some (.cells #[.int .i64 0,.int .i64 0,.slice none 0 0] 38 (0,0))):=⟨h2_⟩
        have n3_:Aside0 (w23.heap[gb904]?=some (.cells #[.int .i64 t899,.int .i64 t900,.slice Ao17 x905002_1.length co17] 38 (0,0))):=⟨h3_⟩
        have n4_:Aside0 (Below w.heap.size w w23):=⟨h4_⟩
        clear HO_905002
        clear BK898
        clear BK904
        clear HB
        clear h0_ h1_ h2_ h3_ h4_
        have HO908:=n0_
        have HO_905002:=n1_
        have BK898:=n2_
        have BK904:=n3_
        have HB:=n4_
        clear n0_ n1_ n2_ n3_ n4_
        have hHeld:w23.cell? ⟨gb904,0,none⟩=some (.int .i64 t899)∧w23.cell? ⟨gb904,1,none⟩=some (.int .i64 t900)∧w23.cell? ⟨gb904,2,none⟩=some (.slice Ao17 x905002_1.length co17)∧w23.cell? (ad905.add (x8_1).toNat)=some (.int .i64 (rd l2 x8_1)):=hS_
        refine norm_ (a':=?_) ?_ ?_
        rotate_left
        ·simp only [putAll,Act.put,List.setIfInBounds_toArray,List.set_cons_zero,List.set_cons_succ]
         rfl
        refine pure_ (i:=12) (N:=some 35) (v:=?_) (a':=?_) #[tT,tT,tT,tT,tT,tT,tT,tT,tT,tT,tT,tT,tT,fF,fF,fF,fF] rfl rfl (any_of HT_.out (by kernel_rfl)) (fun _ _ _ h=>h) (Or.inl ⟨by rfl,?_⟩) ?_ ?_
        rotate_left
        ·intro w'
         go_simp
         with_reducible rfl
        rotate_left
        ·simp only [Act.put,List.setIfInBounds_toArray,List.set_cons_zero,List.set_cons_succ,i64_w,i32_w]
         rfl
        refine one_ (i:=13) (N:=some 36) #[tT,tT,tT,tT,tT,tT,tT,tT,tT,tT,tT,tT,tT,tT,fF,fF,fF] rfl rfl (one_of HT_.out (by kernel_rfl)) (by decide) (fun K hK=>?_)
        refine value_ (w1:=?_) (v:=?_) (by rfl) rfl ?_ ?_
        rotate_left 2
        ·go_simp
         constructor
         ·rfl
         ·rfl
        refine hK.out _ _ ⟨(qj_ (qf_ BK904.out _) 0).trans rfl,(qj_ (qf_ BK904.out _) 1).trans rfl,(qj_ (qf_ BK904.out _) 2).trans rfl,(World.cell?_alloc_lt _ _ _ (World.block_lt_of_cell? _ _ (((HB.out.cell (World.block_lt_of_cell? w _ hw909_0)).trans hw909_0)))).trans (((HB.out.cell (World.block_lt_of_cell? w _ hw909_0)).trans hw909_0))⟩ (fun hHeld=>?_)
        clear hK K
        refine norm_ (a':=?_) ?_ ?_
        rotate_left
        ·show Act.put _ (some 36) _=_
         simp only [Act.put,List.setIfInBounds_toArray,List.set_cons_zero,List.set_cons_succ,i64_w,i32_w]
         rfl
        refine one_ (i:=14) (N:=some 37) #[tT,tT,tT,tT,tT,tT,tT,tT,tT,tT,tT,tT,tT,tT,tT,fF,fF] rfl rfl (one_of HT_.out (by kernel_rfl)) (by decide) (fun K hK=>?_)
        refine Kd.qe3_ k79 (w0:=w) w.heap.size (by rfl) (.tmp 24) (.tmp 36) 24 79 (.agg #[(.string ⟨#[]⟩),(.int .i64 0),(.int .i64 0)]) 32 rfl Try.underlying24 info79 rfl (by decide) (by omega) (.slice Ao17 x905002_1.length co17) x905002_1 (⟨strOfNums y906,(⟨t910,t911⟩:S77)⟩:S79) [.string (strOfNums y906),.int .i64 t910,.int .i64 t911] (fun _=>True) (fun _=>False) rfl rfl ?aP (fun _ hk=>hk.elim) ?aF ?aO ?aB ?aS ?aL ?_
        (case aP=>exact k79_mkM _ _ _ (⟨strOfNums y906,(⟨t910,t911⟩:S77)⟩:S79))
        (case aB=>exact (by repeat (first|(with_reducible first|exact HB.out|apply qb_|apply qa_|apply qc_|refine qh_ ?_ GE898.out|refine qh_ ?_ GE904.out)|exact HB.out)))
        (case aF=>exact (fun _ _=>trivial))
        (case aO=>exact (by (with_reducible repeat (first|apply Kd.qc1_|apply Kd.qm1_|apply Kd.R_drew));exact HO_905002.out))
        (case aS=>exact (qk_ (by repeat (first|(with_reducible first|exact HB.out|apply qb_|apply qa_|apply qc_|refine qh_ ?_ GE898.out|refine qh_ ?_ GE904.out)|exact HB.out))))
        (case aL=>have:=LMc16.out;omega)
        intro v913 w24 ho hb hg hat
        rw [← Ny912.out] at ho
        have n0_:=aK (qg3_ (g:=gb898) (o:=.cells #[.int .i64 0,.int .i64 0,.slice none 0 0] 38 (0,0)) (by (with_reducible repeat (first|refine qg_ ?_ _|refine qi_ ?_|refine qf_ ?_ _));exact BK898.out) hg (Kd.R_ne HO_905002.out BK898.out (by decide)))
        have n1_:=aK (qg3_ (g:=gb904) (o:=.cells #[.int .i64 t899,.int .i64 t900,.slice Ao17 x905002_1.length co17] 38 (0,0)) (by (with_reducible repeat (first|refine qg_ ?_ _|refine qi_ ?_|refine qf_ ?_ _));exact BK904.out) hg (Kd.R_ne HO_905002.out BK904.out (by decide)))
        have n2_:=aK (Kd.R_over' (by (with_reducible repeat (first|apply Kd.qc1_|apply Kd.qm1_|apply Kd.R_drew));exact HO908.out) (Kd.R_typed (by (with_reducible repeat (first|apply Kd.qc1_|apply Kd.qm1_|apply Kd.R_drew));exact HO_905002.out)) (by decide) hg)
        have n3_:=aK (hb)
        have n4_:=aK (ho)
        clear BK898
        clear BK904
        clear HO908
        clear HB
        clear HO_905002
        have BK898:=n0_
        have BK904:=n1_
        have HO908:=n2_
        have HB:=n3_
        have HO914:=n4_
        clear n0_ n1_ n2_ n3_ n4_
        clear ho hb hg hat
        obtain ⟨Ao25,co25,eo25⟩:=Kd.qa2_ HO914.out
        (first|subst eo25|(injection eo25 with f1_ f2_ f3_;have f4_:=f1_.symm;have f5_:=f3_.symm;clear f1_ f2_ f3_;subst f4_;subst f5_))
        refine hK.out _ _ ⟨(qj_ BK904.out 0).trans rfl,(qj_ BK904.out 1).trans rfl,(qj_ BK904.out 2).trans rfl,((HB.out.cell (World.block_lt_of_cell? w _ hw909_0)).trans hw909_0)⟩ (fun hHeld=>?_)
        clear hK K
        refine norm_ (a':=?_) ?_ ?_
        rotate_left
        ·show Act.put _ (some 37) _=_
         simp only [Act.put,List.setIfInBounds_toArray,List.set_cons_zero,List.set_cons_succ,i64_w,i32_w]
         rfl
        refine pure_ (i:=15) (N:=some 38) (v:=?_) (a':=?_) #[tT,tT,tT,tT,tT,tT,tT,tT,tT,tT,tT,tT,tT,tT,tT,tT,fF] rfl rfl (any_of HT_.out (by kernel_rfl)) (fun _ _ _ h=>h) (Or.inl ⟨by rfl,?_⟩) ?_ ?_
        rotate_left
        ·intro w'
         go_simp
         with_reducible rfl
        rotate_left
        ·simp only [Act.put,List.setIfInBounds_toArray,List.set_cons_zero,List.set_cons_succ,i64_w,i32_w]
         rfl
        refine last_ (i:=16) (N:=none) #[tT,tT,tT,tT,tT,tT,tT,tT,tT,tT,tT,tT,tT,tT,tT,tT,tT] rfl rfl (one_of HT_.out (by kernel_rfl)) (by decide) (fun K hK=>?_)
        have hs26:w24.cell? ⟨gb904,2,none⟩=some (.slice Ao17 x905002_1.length co17):=(qj_ BK904.out 2).trans rfl
        have hfs26:=qd_ BK904.out 2
        have hns26_0:=NB898_904.out
        have hms26_0:=NB904_898.out
        refine skip_ (w1:=?_) (by rfl) rfl ?_ ?_
        rotate_left
        ·go_simp
         rfl
        refine hK.out _ _ ?_
        clear hK K
        refine done_ (done_of HT_.out (by kernel_rfl)) ?_
        try go_wp2
        go_roundg k1
        case measure=>have:=HK1.out;omega
        case rel=>exact ⟨(wrap64 (x8_1+1)),(y912),(.slice Ao25 y912.length co25),(by first|rfl|(simp;done)|(simp [*];done)),H',⟨by have:=HK1.out;omega⟩,⟨by (with_reducible repeat (first|apply Kd.qc1_|apply Kd.qm1_|apply Kd.R_drew));exact Kd.R_mono (Kd.R_far (p:=⟨gb904,2,none⟩) (Kd.R_types HO914.out BK904.out (by decide)) (fun _ hk=>hk.2) (.slice Ao25 y912.length co25)) (fun _ hk=>trivial)⟩,⟨by (with_reducible repeat (first|refine qg_ ?_ _|refine qi_ ?_|refine qf_ ?_ _));refine qb2_ ?_ NB898_904.out _;(with_reducible repeat (first|refine qg_ ?_ _|refine qi_ ?_|refine qf_ ?_ _));exact BK898.out⟩,⟨by (with_reducible repeat (first|refine qg_ ?_ _|refine qi_ ?_|refine qf_ ?_ _));refine qz1_ (cs:=#[.int .i64 t899,.int .i64 t900,.slice Ao17 x905002_1.length co17]) ?_ 2 _ rfl;(with_reducible repeat (first|refine qg_ ?_ _|refine qi_ ?_|refine qf_ ?_ _));exact BK904.out⟩,⟨by repeat (first|(with_reducible first|exact HB.out|apply qb_|apply qa_|apply qc_|refine qh_ ?_ GE898.out|refine qh_ ?_ GE904.out)|exact HB.out)⟩⟩
       ·rw [if_neg c16] at H
        exact absurd H (by simp)
     ·rw [if_neg c13] at H
      exact absurd H (by simp)
    ·rw [if_neg c12] at H
     exact absurd H (by simp)
   ·rw [if_neg c11] at H
    have c11b0:decide (x8_1 < a0)=false:=decide_eq_false c11
    clear c11
    simp only [Option.some.injEq,Prod.mk.injEq] at H
    obtain ⟨rfl,rfl,rfl⟩:=H
    have hnb27:=NB904_898.out
    have hnc27:=NB898_904.out
    have hcz28_0:wr.cell? ⟨gb904,0,none⟩=some (.int .i64 t899):=(qj_ BK904.out 0).trans rfl
    have hcz28_1:wr.cell? ⟨gb904,1,none⟩=some (.int .i64 t900):=(qj_ BK904.out 1).trans rfl
    have hcz28_2:wr.cell? ⟨gb904,2,none⟩=some (u905002):=(qj_ BK904.out 2).trans rfl
    have hfz28_0:=qd_ BK904.out 0
    have hfz28_1:=qd_ BK904.out 1
    have hfz28_2:=qd_ BK904.out 2
    have hcz29_0:wr.cell? ⟨gb898,0,none⟩=some (.int .i64 0):=(qj_ BK898.out 0).trans rfl
    have hcz29_1:wr.cell? ⟨gb898,1,none⟩=some (.int .i64 0):=(qj_ BK898.out 1).trans rfl
    have hcz29_2:wr.cell? ⟨gb898,2,none⟩=some (.slice none 0 0):=(qj_ BK898.out 2).trans rfl
    have hfz29_0:=qd_ BK898.out 0
    have hfz29_1:=qd_ BK898.out 1
    have hfz29_2:=qd_ BK898.out 2
    obtain ⟨Ao30,co30,eo30⟩:=Kd.qa2_ HO_905002.out
    subst eo30
    go_wp2
    refine bodyPost_ret (results_cell_row rfl _ _ gb898 38 #[.int .i64 t899,.int .i64 t900,.slice Ao30 x905002_1.length co30] (0,0) _ rfl (by (with_reducible repeat (first|refine qg_ ?_ _|refine qi_ ?_|refine qf_ ?_ _));refine qz1_ (cs:=#[.int .i64 t899,.int .i64 t900,.slice none 0 0]) ?_ 2 _ rfl;(with_reducible repeat (first|refine qg_ ?_ _|refine qi_ ?_|refine qf_ ?_ _));refine qz1_ (cs:=#[.int .i64 t899,.int .i64 0,.slice none 0 0]) ?_ 1 _ rfl;(with_reducible repeat (first|refine qg_ ?_ _|refine qi_ ?_|refine qf_ ?_ _));refine qz1_ (cs:=#[.int .i64 0,.int .i64 0,.slice none 0 0]) ?_ 0 _ rfl;(with_reducible repeat (first|refine qg_ ?_ _|refine qi_ ?_|refine qf_ ?_ _));exact BK898.out) Try.underlying38 rfl (by kernel_rfl)) rfl ?_
    exact ⟨_,by first|rfl|(simp [qn_,qm_] <;> rfl)|(simp [*,qn_,qm_] <;> rfl),by (with_reducible repeat (first|apply Kd.qc1_|apply Kd.qm1_|apply Kd.R_drew));exact Kd.R_mono (Kd.R_far (p:=⟨gb898,2,none⟩) (Kd.R_far (p:=⟨gb898,1,none⟩) (Kd.R_far (p:=⟨gb898,0,none⟩) (Kd.R_types HO_905002.out BK898.out (by decide)) (fun _ hk=>hk.2) (.int .i64 t899)) (fun _ hk=>hk.2) (.int .i64 t900)) (fun _ hk=>hk.2) (.slice Ao30 x905002_1.length co30)) (fun _ hk=>trivial),by repeat (first|(with_reducible first|exact HB.out|apply qb_|apply qa_|apply qc_|refine qh_ ?_ GE898.out|refine qh_ ?_ GE904.out)|exact HB.out)⟩
end Go.Proofs.Ytaiefdhenikiiaa.Base
namespace Go.Proofs.Ytaiefdhenikiiaa.Base
open Go.RowKit Go.Proofs.YtaiefdhenikiiaaW.PrintWords Go.Proofs.YtaiefdhenikiiaaW.PrintLast Go.Proofs.YtaiefdhenikiiaaW.PrintMore
attribute [local go_sem] max2_int qq1_ max_two min_two max_three min_three max_four min_four Go.Proofs.YtaiefdhenikiiaaZ.qu_   -- for this text's walks alone
set_option linter.unusedVariables false
set_option linter.unusedSimpArgs false
mutual
def qp_.j0:Nat→Int→List (List Int)→Bool→Option (Bool)
 | 0,_,_,_=>none
 | k+1,x0,x1,x14=>if x14=true then (some false) else (qp_.l0 k x0 x1 0)
def qp_.l0:Nat→Int→List (List Int)→Int→Option (Bool)
 | 0,_,_,_=>none
 | k+1,x0,x1,x5=>if x5 < (x1.length:Int) then (if 0≤x5 then (if ((rd_L7 x1 x5).length:Int)=x0 then (qp_.l1 k x0 x1 x5 0) else (some false)) else (none)) else (some true)
def qp_.l1:Nat→Int→List (List Int)→Int→Int→Option (Bool)
 | 0,_,_,_,_=>none
 | k+1,x0,x1,x5,x6=>if 0≤x5 then (if x5 < (x1.length:Int) then (if x6 < ((rd_L7 x1 x5).length:Int) then (if 0≤x6 then ((qp1_.f (rd (rd_L7 x1 x5) x6) (-100) 100).bind fun t835=>(if t835=true then (qp_.l1 k x0 x1 x5 (wrap64 (x6+1))) else (some false))) else (none)) else (qp_.l0 k x0 x1 (wrap64 (x5+1)))) else (none)) else (none)
end
def qp_.f (k:Nat) (a0:Int) (l1:List (List Int)):Option (Bool):=(qp1_.f a0 1 3).bind fun t830=>(if t830=true then (qp_.j0 k a0 l1 (decide ((l1.length:Int) > 12))) else (qp_.j0 k a0 l1 true))
theorem qp_.mono_l:∀ k,(∀ y0 y1 y2,LeO (qp_.j0 k y0 y1 y2) (qp_.j0 (k+1) y0 y1 y2))∧(∀ y0 y1 y2,LeO (qp_.l0 k y0 y1 y2) (qp_.l0 (k+1) y0 y1 y2))∧(∀ y0 y1 y2 y3,LeO (qp_.l1 k y0 y1 y2 y3) (qp_.l1 (k+1) y0 y1 y2 y3))
 | 0=>⟨fun _ _ _ r h=>by simp [qp_.j0] at h,fun _ _ _ r h=>by simp [qp_.l0] at h,fun _ _ _ _ r h=>by simp [qp_.l1] at h⟩
 | k+1=>by
  obtain ⟨ih0,ih1,ih2⟩:=qp_.mono_l k
  refine ⟨?_,?_,?_⟩
  ·intro y0 y1 y2
   unfold qp_.j0
   repeat' first
   | (with_reducible exact ih0 _ _ _)
   | (with_reducible exact ih1 _ _ _)
   | (with_reducible exact ih2 _ _ _ _)
   | (with_reducible exact LeO.refl _)
   | (with_reducible exact LeO.none _)
   | (with_reducible refine LeO.ite ?_ ?_)
   | (with_reducible refine LeO.bind ?_ (fun _=>?_))
   | exact ih0 _ _ _
   | exact ih1 _ _ _
   | exact ih2 _ _ _ _
   | exact LeO.none _
   | refine LeO.ite ?_ ?_
   | refine LeO.bind ?_ (fun _=>?_)
  ·intro y0 y1 y2
   unfold qp_.l0
   repeat' first
   | (with_reducible exact ih0 _ _ _)
   | (with_reducible exact ih1 _ _ _)
   | (with_reducible exact ih2 _ _ _ _)
   | (with_reducible exact LeO.refl _)
   | (with_reducible exact LeO.none _)
   | (with_reducible refine LeO.ite ?_ ?_)
   | (with_reducible refine LeO.bind ?_ (fun _=>?_))
   | exact ih0 _ _ _
   | exact ih1 _ _ _
   | exact ih2 _ _ _ _
   | exact LeO.none _
   | refine LeO.ite ?_ ?_
   | refine LeO.bind ?_ (fun _=>?_)
  ·intro y0 y1 y2 y3
   unfold qp_.l1
   repeat' first
   | (with_reducible exact ih0 _ _ _)
   | (with_reducible exact ih1 _ _ _)
   | (with_reducible exact ih2 _ _ _ _)
   | (with_reducible exact LeO.refl _)
   | (with_reducible exact LeO.none _)
   | (with_reducible refine LeO.ite ?_ ?_)
   | (with_reducible refine LeO.bind ?_ (fun _=>?_))
   | exact ih0 _ _ _
   | exact ih1 _ _ _
   | exact ih2 _ _ _ _
   | exact LeO.none _
   | refine LeO.ite ?_ ?_
   | refine LeO.bind ?_ (fun _=>?_)
theorem qp_.mono:∀ a0 a1 k,LeO (qp_.f k a0 a1) (qp_.f (k+1) a0 a1):=by
 intro a0 a1 k
 obtain ⟨ih0,ih1,ih2⟩:=qp_.mono_l k
 unfold qp_.f
 repeat' first
   | (with_reducible exact ih0 _ _ _)
   | (with_reducible exact ih1 _ _ _)
   | (with_reducible exact ih2 _ _ _ _)
   | (with_reducible exact LeO.refl _)
   | (with_reducible exact LeO.none _)
   | (with_reducible refine LeO.ite ?_ ?_)
   | (with_reducible refine LeO.bind ?_ (fun _=>?_))
   | exact ih0 _ _ _
   | exact ih1 _ _ _
   | exact ih2 _ _ _ _
   | exact LeO.none _
   | refine LeO.ite ?_ ?_
   | refine LeO.bind ?_ (fun _=>?_)
set_option maxHeartbeats 8000000 in
set_option maxRecDepth 100000 in
theorem qp_.calls (k:Nat) (a0:Int) (A1:Option Addr) (c1:Nat) (l1:List (List Int)) (r:Bool) (w:World) (hr1:Kd.C (Kd.slice 2 (Kd.int .i64)) w A1 l1.length l1) (hc1:l1.length≤c1) (h:qp_.f k a0 l1=some r) :
  Calls Try.prog 168 #[.int .i64 a0,.slice A1 l1.length c1] w fun e w'=>e=.returned (.bool r)∧Drawn0 w w':=by
 have HR1:=aK hr1
 have HC1:=aK hc1
 clear hr1 hc1
 have H:((qp1_.f a0 1 3).bind fun t830=>(if t830=true then (qp_.j0 k a0 l1 (decide ((l1.length:Int) > 12))) else (qp_.j0 k a0 l1 true)))=some r:=h
 clear h
 have HC3:=aK H
 clear H
 go_enter Try.func168,Try.ntmps168
 go_upto_region 1 with (fail)
 go_cut [14] (fun v14 wc=>∃ (kq:Nat) (x14_2:Bool),v14=.bool x14_2∧Aside0 (qp_.j0 kq a0 l1 x14_2=some r)∧Aside0 (kq≤k)∧Drawn0 w wc)
 case first =>
  have H:=HC3.out
  clear HC3
  replace H:=Option.bind_eq_some_iff.mp H
  obtain ⟨t830,A40,H⟩:=H
  replace H:(if t830=true then (qp_.j0 k a0 l1 (decide ((l1.length:Int) > 12))) else (qp_.j0 k a0 l1 true))=some r:=H
  have A4:=aK A40
  clear A40
  by_cases c5:t830=true
  ·subst c5
   have H1:(qp_.j0 k a0 l1 (decide ((l1.length:Int) > 12)))=some r:=by rw [if_pos rfl] at H;exact H
   clear H
   have H:=H1
   clear H1
   have H':=aK H
   clear H
   go_wp2_with (first|((with_reducible refine qt_ (f:=107) rfl ?_);refine goesL_ (some 8) rfl rfl Try.func107 (by kernel_rfl) rfl #[.int .i64 a0,.int .i64 1,.int .i64 3] rfl (by (try simp only [List.map_toArray,List.map_cons,List.map_nil]);first|done|rfl|(simp only [List.length_drop,List.length_take];rfl)) ?_;(with_reducible refine (qp1_.calls a0 1 3 true _ A4.out).mono ?_);rintro e w' ⟨rfl,⟨nd,rfl⟩⟩;refine ⟨_,rfl,?_⟩))
   go_meet
   case rel=>exact ⟨_,(decide ((l1.length:Int) > 12)),(by first|rfl|(simp;done)|(simp [*];done)),H',⟨by first|omega|exact Nat.le_refl _⟩,by repeat (first|exact Drawn0.refl _|apply Drawn0.step)⟩
  ·replace c5:=Bool.eq_false_iff.mpr c5
   subst c5
   have H1:(qp_.j0 k a0 l1 true)=some r:=by rw [if_neg (show ¬ (false=true) by decide)] at H;exact H
   clear H
   have H:=H1
   clear H1
   have H':=aK H
   clear H
   go_wp2_with (first|((with_reducible refine qt_ (f:=107) rfl ?_);refine goesL_ (some 8) rfl rfl Try.func107 (by kernel_rfl) rfl #[.int .i64 a0,.int .i64 1,.int .i64 3] rfl (by (try simp only [List.map_toArray,List.map_cons,List.map_nil]);first|done|rfl|(simp only [List.length_drop,List.length_take];rfl)) ?_;(with_reducible refine (qp1_.calls a0 1 3 false _ A4.out).mono ?_);rintro e w' ⟨rfl,⟨nd,rfl⟩⟩;refine ⟨_,rfl,?_⟩))
   go_meet
   case rel=>exact ⟨_,(true),(by first|rfl|(simp;done)|(simp [*];done)),H',⟨by first|omega|exact Nat.le_refl _⟩,by repeat (first|exact Drawn0.refl _|apply Drawn0.step)⟩
 case rest =>
  clear HC3
  try clear c1
  try clear p2
  try clear c5
  obtain ⟨kq,x14_2,rfl,HA,HJ2,⟨mc2,rfl⟩⟩:=hcut
  cases kq with
  | zero=>exact absurd HA.out (by simp [qp_.j0])
  | succ kj2 =>
   have H:=HA.out
   clear HA
   simp only [qp_.j0] at H
   by_cases c6:x14_2=true
   ·subst c6
    have H1:(some false)=some r:=by rw [if_pos rfl] at H;exact H
    clear H
    have H:=H1
    clear H1
    obtain rfl:=Option.some.inj H
    go_wp2
    go_ret
    exact ⟨by first|rfl|(simp;done)|(simp [*];done)|(simp [Go.Proofs.YtaiefdhenikiiaaZ.bne_nil];done),by repeat (first|exact Drawn0.refl _|apply Drawn0.step)⟩
   ·replace c6:=Bool.eq_false_iff.mpr c6
    subst c6
    have H1:(qp_.l0 kj2 a0 l1 0)=some r:=by rw [if_neg (show ¬ (false=true) by decide)] at H;exact H
    clear H
    have H:=H1
    clear H1
    have H':=aK H
    clear H
    go_wp2
    go_loopg [5] kj2 (fun kq v5 w'=>∃ (x5_2:Int),v5=.int .i64 x5_2∧Aside0 (qp_.l0 kq a0 l1 x5_2=some r)∧Aside0 (kq≤kj2)∧Drawn0 w w')
    case atStart=>exact ⟨(0),(by first|rfl|(simp;done)|(simp [*];done)),H',⟨Nat.le_refl _⟩,by repeat (first|exact Drawn0.refl _|apply Drawn0.step)⟩
    case round =>
     clear H'
     try clear c1
     try clear c2
     try clear p2
     try clear c5
     try clear c6
     try clear p2
     obtain ⟨x5_2,rfl,HA,HK2,⟨m2,rfl⟩⟩:=hrel
     cases gk with
     | zero=>exact absurd HA.out (by simp [qp_.l0])
     | succ k2 =>
      have H:=HA.out
      clear HA
      simp only [qp_.l0] at H
      by_cases c7:x5_2 < (l1.length:Int)
      ·rw [if_pos c7] at H
       have c7b0:decide (x5_2 < (l1.length:Int))=true:=decide_eq_true c7
       clear c7
       by_cases c8:0≤x5_2
       ·rw [if_pos c8] at H
        have c8b0:decide (0≤x5_2)=true:=decide_eq_true c8
        clear c8
        by_cases c9:((rd_L7 l1 x5_2).length:Int)=a0
        ·rw [if_pos c9] at H
         have c9b0:(((rd_L7 l1 x5_2).length:Int) == a0)=true:=beq_iff_eq.mpr c9
         have c9b1:(((rd_L7 l1 x5_2).length:Int) != a0)=false:=bne_eq_false_iff_eq.mpr c9
         clear c9
         have H':=aK H
         clear H
         have p831:0≤(x5_2:Int):=of_decide_eq_true (by first|(with_reducible assumption)|assumption)
         have q831:x5_2 < (l1.length:Int):=of_decide_eq_true (by first|(with_reducible assumption)|assumption)
         obtain ⟨ad831,A831_0,c831_0,e831,hx831_0,hl831_0,hi831_0⟩:=at_L7 HR1.out x5_2 p831 q831
         cases e831
         have HR831_0:=aK hi831_0
         have HC831_0:=aK hl831_0
         clear hi831_0 hl831_0
         replace p831:=eq_true p831
         replace q831:=eq_true q831
         go_wp2
         go_loopg [6] k2 (fun kq v6 w'=>∃ (x6_3:Int),v6=.int .i64 x6_3∧Aside0 (qp_.l1 kq a0 l1 x5_2 x6_3=some r)∧Aside0 (kq≤k2)∧Drawn0 w w')
         case atStart=>exact ⟨(0),(by first|rfl|(simp;done)|(simp [*];done)),H',⟨Nat.le_refl _⟩,by repeat (first|exact Drawn0.refl _|apply Drawn0.step)⟩
         case round =>
          clear H'
          try clear c1
          try clear c2
          try clear p2
          try clear c5
          try clear c6
          try clear c7
          try clear c7b0
          try clear c8
          try clear c8b0
          try clear p8
          try clear q8
          try clear hx8
          try clear c9
          try clear c9b0
          try clear c9b1
          try clear hx831_0
          try clear p2
          try clear p831
          try clear q831
          obtain ⟨x6_3,rfl,HA,HK3,⟨m3,rfl⟩⟩:=hrel
          cases gk with
          | zero=>exact absurd HA.out (by simp [qp_.l1])
          | succ k3 =>
           have H:=HA.out
           clear HA
           simp only [qp_.l1] at H
           by_cases c10:0≤x5_2
           ·rw [if_pos c10] at H
            have c10b0:decide (0≤x5_2)=true:=decide_eq_true c10
            clear c10
            by_cases c11:x5_2 < (l1.length:Int)
            ·rw [if_pos c11] at H
             have c11b0:decide (x5_2 < (l1.length:Int))=true:=decide_eq_true c11
             clear c11
             by_cases c12:x6_3 < ((rd_L7 l1 x5_2).length:Int)
             ·rw [if_pos c12] at H
              have c12b0:decide (x6_3 < ((rd_L7 l1 x5_2).length:Int))=true:=decide_eq_true c12
              clear c12
              by_cases c13:0≤x6_3
              ·rw [if_pos c13] at H
               have c13b0:decide (0≤x6_3)=true:=decide_eq_true c13
               clear c13
               replace H:=Option.bind_eq_some_iff.mp H
               obtain ⟨t835,A140,H⟩:=H
               replace H:(if t835=true then (qp_.l1 k3 a0 l1 x5_2 (wrap64 (x6_3+1))) else (some false))=some r:=H
               have A14:=aK A140
               clear A140
               by_cases c15:t835=true
               ·subst c15
                have H1:(qp_.l1 k3 a0 l1 x5_2 (wrap64 (x6_3+1)))=some r:=by rw [if_pos rfl] at H;exact H
                clear H
                have H:=H1
                clear H1
                have H':=aK H
                clear H
                have p832:0≤(x5_2:Int):=of_decide_eq_true (by first|(with_reducible assumption)|assumption)
                have q832:x5_2 < (l1.length:Int):=of_decide_eq_true (by first|(with_reducible assumption)|assumption)
                obtain ⟨ad832,A832_0,c832_0,e832,hx832_0,hl832_0,hi832_0⟩:=at_L7 HR1.out x5_2 p832 q832
                obtain rfl:ad831=ad832:=(by injection e832)
                have HR832_0:=aK hi832_0
                have HC832_0:=aK hl832_0
                clear hi832_0 hl832_0
                replace p832:=eq_true p832
                replace q832:=eq_true q832
                have p833:0≤(x5_2:Int):=of_decide_eq_true (by first|(with_reducible assumption)|assumption)
                have q833:x5_2 < (l1.length:Int):=of_decide_eq_true (by first|(with_reducible assumption)|assumption)
                obtain ⟨ad833,A833_0,c833_0,e833,hx833_0,hl833_0,hi833_0⟩:=at_L7 HR1.out x5_2 p833 q833
                obtain rfl:ad831=ad833:=(by injection e833)
                have HR833_0:=aK hi833_0
                have HC833_0:=aK hl833_0
                clear hi833_0 hl833_0
                replace p833:=eq_true p833
                replace q833:=eq_true q833
                have ea_:=Option.some.inj (hx832_0.symm.trans hx833_0)
                injection ea_ with ea_ en_ ec_
                subst ea_
                subst ec_
                clear en_
                have p834:0≤(x6_3:Int):=of_decide_eq_true (by first|(with_reducible assumption)|assumption)
                have q834:x6_3 < ((rd_L7 l1 x5_2).length:Int):=of_decide_eq_true (by first|(with_reducible assumption)|assumption)
                obtain ⟨ad834,e834,hx834_0⟩:=Kd.at_int HR833_0.out x6_3 p834 q834
                cases e834
                replace p834:=eq_true p834
                replace q834:=eq_true q834
                go_wp2_with (first|((with_reducible refine qt_ (f:=107) rfl ?_);refine goesL_ (some 44) rfl rfl Try.func107 (by kernel_rfl) rfl #[.int .i64 (rd (rd_L7 l1 x5_2) x6_3),.int .i64 (-100),.int .i64 100] rfl (by (try simp only [List.map_toArray,List.map_cons,List.map_nil]);first|done|rfl|(simp only [List.length_drop,List.length_take];rfl)) ?_;(with_reducible refine (qp1_.calls (rd (rd_L7 l1 x5_2) x6_3) (-100) 100 true _ A14.out).mono ?_);rintro e w' ⟨rfl,⟨nd,rfl⟩⟩;refine ⟨_,rfl,?_⟩))
                go_roundg k3
                case measure=>have:=HJ2.out;have:=HK2.out;have:=HK3.out;omega
                case rel=>exact ⟨(wrap64 (x6_3+1)),(by first|rfl|(simp;done)|(simp [*];done)),H',⟨by have:=HJ2.out;have:=HK2.out;have:=HK3.out;omega⟩,by repeat (first|exact Drawn0.refl _|apply Drawn0.step)⟩
               ·replace c15:=Bool.eq_false_iff.mpr c15
                subst c15
                have H1:(some false)=some r:=by rw [if_neg (show ¬ (false=true) by decide)] at H;exact H
                clear H
                have H:=H1
                clear H1
                obtain rfl:=Option.some.inj H
                have p832:0≤(x5_2:Int):=of_decide_eq_true (by first|(with_reducible assumption)|assumption)
                have q832:x5_2 < (l1.length:Int):=of_decide_eq_true (by first|(with_reducible assumption)|assumption)
                obtain ⟨ad832,A832_0,c832_0,e832,hx832_0,hl832_0,hi832_0⟩:=at_L7 HR1.out x5_2 p832 q832
                obtain rfl:ad831=ad832:=(by injection e832)
                have HR832_0:=aK hi832_0
                have HC832_0:=aK hl832_0
                clear hi832_0 hl832_0
                replace p832:=eq_true p832
                replace q832:=eq_true q832
                have p833:0≤(x5_2:Int):=of_decide_eq_true (by first|(with_reducible assumption)|assumption)
                have q833:x5_2 < (l1.length:Int):=of_decide_eq_true (by first|(with_reducible assumption)|assumption)
                obtain ⟨ad833,A833_0,c833_0,e833,hx833_0,hl833_0,hi833_0⟩:=at_L7 HR1.out x5_2 p833 q833
                obtain rfl:ad831=ad833:=(by injection e833)
                have HR833_0:=aK hi833_0
                have HC833_0:=aK hl833_0
                clear hi833_0 hl833_0
                replace p833:=eq_true p833
                replace q833:=eq_true q833
                have ea_:=Option.some.inj (hx832_0.symm.trans hx833_0)
                injection ea_ with ea_ en_ ec_
                subst ea_
                subst ec_
                clear en_
                have p834:0≤(x6_3:Int):=of_decide_eq_true (by first|(with_reducible assumption)|assumption)
                have q834:x6_3 < ((rd_L7 l1 x5_2).length:Int):=of_decide_eq_true (by first|(with_reducible assumption)|assumption)
                obtain ⟨ad834,e834,hx834_0⟩:=Kd.at_int HR833_0.out x6_3 p834 q834
                cases e834
                replace p834:=eq_true p834
                replace q834:=eq_true q834
                go_wp2_with (first|((with_reducible refine qt_ (f:=107) rfl ?_);refine goesL_ (some 44) rfl rfl Try.func107 (by kernel_rfl) rfl #[.int .i64 (rd (rd_L7 l1 x5_2) x6_3),.int .i64 (-100),.int .i64 100] rfl (by (try simp only [List.map_toArray,List.map_cons,List.map_nil]);first|done|rfl|(simp only [List.length_drop,List.length_take];rfl)) ?_;(with_reducible refine (qp1_.calls (rd (rd_L7 l1 x5_2) x6_3) (-100) 100 false _ A14.out).mono ?_);rintro e w' ⟨rfl,⟨nd,rfl⟩⟩;refine ⟨_,rfl,?_⟩))
                go_ret
                exact ⟨by first|rfl|(simp;done)|(simp [*];done)|(simp [Go.Proofs.YtaiefdhenikiiaaZ.bne_nil];done),by repeat (first|exact Drawn0.refl _|apply Drawn0.step)⟩
              ·rw [if_neg c13] at H
               exact absurd H (by simp)
             ·rw [if_neg c12] at H
              have c12b0:decide (x6_3 < ((rd_L7 l1 x5_2).length:Int))=false:=decide_eq_false c12
              clear c12
              have H':=aK H
              clear H
              have p832:0≤(x5_2:Int):=of_decide_eq_true (by first|(with_reducible assumption)|assumption)
              have q832:x5_2 < (l1.length:Int):=of_decide_eq_true (by first|(with_reducible assumption)|assumption)
              obtain ⟨ad832,A832_0,c832_0,e832,hx832_0,hl832_0,hi832_0⟩:=at_L7 HR1.out x5_2 p832 q832
              obtain rfl:ad831=ad832:=(by injection e832)
              have HR832_0:=aK hi832_0
              have HC832_0:=aK hl832_0
              clear hi832_0 hl832_0
              replace p832:=eq_true p832
              replace q832:=eq_true q832
              go_wp2
              go_roundg k3
              case measure=>have:=HJ2.out;have:=HK2.out;have:=HK3.out;omega
              case rel=>exact ⟨(wrap64 (x5_2+1)),(by first|rfl|(simp;done)|(simp [*];done)),H',⟨by have:=HJ2.out;have:=HK2.out;have:=HK3.out;omega⟩,by repeat (first|exact Drawn0.refl _|apply Drawn0.step)⟩
            ·rw [if_neg c11] at H
             exact absurd H (by simp)
           ·rw [if_neg c10] at H
            exact absurd H (by simp)
        ·rw [if_neg c9] at H
         have c9b0:(((rd_L7 l1 x5_2).length:Int) == a0)=false:=beq_eq_false_iff_ne.mpr c9
         have c9b1:(((rd_L7 l1 x5_2).length:Int) != a0)=true:=bne_iff_ne.mpr c9
         obtain rfl:=Option.some.inj H
         have p831:0≤(x5_2:Int):=of_decide_eq_true (by first|(with_reducible assumption)|assumption)
         have q831:x5_2 < (l1.length:Int):=of_decide_eq_true (by first|(with_reducible assumption)|assumption)
         obtain ⟨ad831,A831_0,c831_0,e831,hx831_0,hl831_0,hi831_0⟩:=at_L7 HR1.out x5_2 p831 q831
         cases e831
         have HR831_0:=aK hi831_0
         have HC831_0:=aK hl831_0
         clear hi831_0 hl831_0
         replace p831:=eq_true p831
         replace q831:=eq_true q831
         go_wp2
         go_ret
         exact ⟨by first|rfl|(simp;done)|(simp [*];done)|(simp [Go.Proofs.YtaiefdhenikiiaaZ.bne_nil];done),by repeat (first|exact Drawn0.refl _|apply Drawn0.step)⟩
       ·rw [if_neg c8] at H
        exact absurd H (by simp)
      ·rw [if_neg c7] at H
       have c7b0:decide (x5_2 < (l1.length:Int))=false:=decide_eq_false c7
       clear c7
       obtain rfl:=Option.some.inj H
       go_wp2
       go_ret
       exact ⟨by first|rfl|(simp;done)|(simp [*];done)|(simp [Go.Proofs.YtaiefdhenikiiaaZ.bne_nil];done),by repeat (first|exact Drawn0.refl _|apply Drawn0.step)⟩
end Go.Proofs.Ytaiefdhenikiiaa.Base
namespace Go.Proofs.Ytaiefdhenikiiaa.Base
open Go.RowKit Go.Proofs.YtaiefdhenikiiaaW.PrintWords Go.Proofs.YtaiefdhenikiiaaW.PrintLast Go.Proofs.YtaiefdhenikiiaaW.PrintMore
attribute [local go_sem] max2_int qq1_ max_two min_two max_three min_three max_four min_four Go.Proofs.YtaiefdhenikiiaaZ.qu_   -- for this text's walks alone
set_option linter.unusedVariables false
set_option linter.unusedSimpArgs false
def qr1_.l0:Nat→Int→Int→List (List (List Int))→Int→Option (Int)
 | 0,_,_,_,_=>none
 | k+1,x0,x1,x2,x7=>if x7 < (x2.length:Int) then (if 0≤x7 then ((qp_.f k x0 (rd_L8 x2 x7)).bind fun t837=>(if t837=true then (qr1_.l0 k x0 x1 x2 (wrap64 (x7+1))) else (some 1))) else (none)) else ((qb3_.f x0 x1).bind fun t838=>(if t838=true then (some 0) else (some 2)))
def qr1_.f (k:Nat) (a0:Int) (a1:Int) (l2:List (List (List Int))):Option (Int):=qr1_.l0 k a0 a1 l2 0
theorem qr1_.mono_l:∀ k,(∀ y0 y1 y2 y3,LeO (qr1_.l0 k y0 y1 y2 y3) (qr1_.l0 (k+1) y0 y1 y2 y3))
 | 0=>fun _ _ _ _ r h=>by simp [qr1_.l0] at h
 | k+1=>by
  have ih0:=qr1_.mono_l k
  ·intro y0 y1 y2 y3
   unfold qr1_.l0
   repeat' first
   | (with_reducible exact ih0 _ _ _ _)
   | (with_reducible exact qp_.mono _ _ _)
   | (with_reducible exact LeO.refl _)
   | (with_reducible exact LeO.none _)
   | (with_reducible refine LeO.ite ?_ ?_)
   | (with_reducible refine LeO.bind ?_ (fun _=>?_))
   | exact ih0 _ _ _ _
   | exact qp_.mono _ _ _
   | exact LeO.none _
   | refine LeO.ite ?_ ?_
   | refine LeO.bind ?_ (fun _=>?_)
theorem qr1_.mono:∀ a0 a1 a2 k,LeO (qr1_.f k a0 a1 a2) (qr1_.f (k+1) a0 a1 a2):=by
 intro a0 a1 a2 k
 have ih0:=qr1_.mono_l k
 unfold qr1_.f
 repeat' first
   | (with_reducible exact ih0 _ _ _ _)
   | (with_reducible exact qp_.mono _ _ _)
   | (with_reducible exact LeO.refl _)
   | (with_reducible exact LeO.none _)
   | (with_reducible refine LeO.ite ?_ ?_)
   | (with_reducible refine LeO.bind ?_ (fun _=>?_))
   | exact ih0 _ _ _ _
   | exact qp_.mono _ _ _
   | exact LeO.none _
   | refine LeO.ite ?_ ?_
   | refine LeO.bind ?_ (fun _=>?_)
set_option maxHeartbeats 8000000 in
set_option maxRecDepth 100000 in
theorem qr1_.calls (k:Nat) (a0:Int) (a1:Int) (A2:Option Addr) (c2:Nat) (l2:List (List (List Int))) (r:Int) (w:World) (hr2:Kd.C (Kd.slice 50 (Kd.slice 2 (Kd.int .i64))) w A2 l2.length l2) (hc2:l2.length≤c2) (h:qr1_.f k a0 a1 l2=some r) :
  Calls Try.prog 101 #[.int .i64 a0,.int .i64 a1,.slice A2 l2.length c2] w fun e w'=>e=.returned (.int .i64 r)∧Drawn0 w w':=by
 have HR2:=aK hr2
 have HC2:=aK hc2
 clear hr2 hc2
 have H:(qr1_.l0 k a0 a1 l2 0)=some r:=h
 clear h
 have H':=aK H
 clear H
 go_enter Try.func101,Try.ntmps101
 go_wp2
 go_loopg [7] k (fun kq v7 w'=>∃ (x7_1:Int),v7=.int .i64 x7_1∧Aside0 (qr1_.l0 kq a0 a1 l2 x7_1=some r)∧Aside0 (kq≤k)∧Drawn0 w w')
 case atStart=>exact ⟨(0),(by first|rfl|(simp;done)|(simp [*];done)),H',⟨Nat.le_refl _⟩,by repeat (first|exact Drawn0.refl _|apply Drawn0.step)⟩
 case round =>
  clear H'
  try clear c1
  try clear c2
  try clear p2
  obtain ⟨x7_1,rfl,HA,HK1,⟨m1,rfl⟩⟩:=hrel
  cases gk with
  | zero=>exact absurd HA.out (by simp [qr1_.l0])
  | succ k1 =>
   have H:=HA.out
   clear HA
   simp only [qr1_.l0] at H
   by_cases c4:x7_1 < (l2.length:Int)
   ·rw [if_pos c4] at H
    have c4b0:decide (x7_1 < (l2.length:Int))=true:=decide_eq_true c4
    clear c4
    by_cases c5:0≤x7_1
    ·rw [if_pos c5] at H
     have c5b0:decide (0≤x7_1)=true:=decide_eq_true c5
     clear c5
     replace H:=Option.bind_eq_some_iff.mp H
     obtain ⟨t837,A60,H⟩:=H
     replace H:(if t837=true then (qr1_.l0 k1 a0 a1 l2 (wrap64 (x7_1+1))) else (some 1))=some r:=H
     have A6:=aK A60
     clear A60
     by_cases c7:t837=true
     ·subst c7
      have H1:(qr1_.l0 k1 a0 a1 l2 (wrap64 (x7_1+1)))=some r:=by rw [if_pos rfl] at H;exact H
      clear H
      have H:=H1
      clear H1
      have H':=aK H
      clear H
      have p836:0≤(x7_1:Int):=of_decide_eq_true (by first|(with_reducible assumption)|assumption)
      have q836:x7_1 < (l2.length:Int):=of_decide_eq_true (by first|(with_reducible assumption)|assumption)
      obtain ⟨ad836,A836_0,c836_0,e836,hx836_0,hl836_0,hi836_0⟩:=at_L8 HR2.out x7_1 p836 q836
      cases e836
      have HR836_0:=aK hi836_0
      have HC836_0:=aK hl836_0
      clear hi836_0 hl836_0
      replace p836:=eq_true p836
      replace q836:=eq_true q836
      go_wp2_with (first|((with_reducible refine qt_ (f:=168) rfl ?_);refine goesL_ (some 19) rfl rfl Try.func168 (by kernel_rfl) rfl #[.int .i64 a0,.slice A836_0 (rd_L8 l2 x7_1).length c836_0] rfl (by (try simp only [List.map_toArray,List.map_cons,List.map_nil]);first|done|rfl|(simp only [List.length_drop,List.length_take];rfl)) ?_;(with_reducible refine (qp_.calls k1 a0 _ _ (rd_L8 l2 x7_1) true _ ?side1 ?side2 A6.out).mono ?_);(case side1=>repeat (first|exact HR836_0.out|(with_reducible refine Kd.qs2_ ?_ _)|(with_reducible refine Kd.qr2_ ?_ _)|(with_reducible refine Kd.C_drew ?_)));(case side2=>exact HC836_0.out);rintro e w' ⟨rfl,⟨nd,rfl⟩⟩;refine ⟨_,rfl,?_⟩))
      go_roundg k1
      case measure=>have:=HK1.out;omega
      case rel=>exact ⟨(wrap64 (x7_1+1)),(by first|rfl|(simp;done)|(simp [*];done)),H',⟨by have:=HK1.out;omega⟩,by repeat (first|exact Drawn0.refl _|apply Drawn0.step)⟩
     ·replace c7:=Bool.eq_false_iff.mpr c7
      subst c7
      have H1:(some 1)=some r:=by rw [if_neg (show ¬ (false=true) by decide)] at H;exact H
      clear H
      have H:=H1
      clear H1
      obtain rfl:=Option.some.inj H
      have p836:0≤(x7_1:Int):=of_decide_eq_true (by first|(with_reducible assumption)|assumption)
      have q836:x7_1 < (l2.length:Int):=of_decide_eq_true (by first|(with_reducible assumption)|assumption)
      obtain ⟨ad836,A836_0,c836_0,e836,hx836_0,hl836_0,hi836_0⟩:=at_L8 HR2.out x7_1 p836 q836
      cases e836
      have HR836_0:=aK hi836_0
      have HC836_0:=aK hl836_0
      clear hi836_0 hl836_0
      replace p836:=eq_true p836
      replace q836:=eq_true q836
      go_wp2_with (first|((with_reducible refine qt_ (f:=168) rfl ?_);refine goesL_ (some 19) rfl rfl Try.func168 (by kernel_rfl) rfl #[.int .i64 a0,.slice A836_0 (rd_L8 l2 x7_1).length c836_0] rfl (by (try simp only [List.map_toArray,List.map_cons,List.map_nil]);first|done|rfl|(simp only [List.length_drop,List.length_take];rfl)) ?_;(with_reducible refine (qp_.calls k1 a0 _ _ (rd_L8 l2 x7_1) false _ ?side1 ?side2 A6.out).mono ?_);(case side1=>repeat (first|exact HR836_0.out|(with_reducible refine Kd.qs2_ ?_ _)|(with_reducible refine Kd.qr2_ ?_ _)|(with_reducible refine Kd.C_drew ?_)));(case side2=>exact HC836_0.out);rintro e w' ⟨rfl,⟨nd,rfl⟩⟩;refine ⟨_,rfl,?_⟩))
      go_ret
      exact ⟨by first|rfl|(simp;done)|(simp [*];done)|(simp [Go.Proofs.YtaiefdhenikiiaaZ.bne_nil];done),by repeat (first|exact Drawn0.refl _|apply Drawn0.step)⟩
    ·rw [if_neg c5] at H
     exact absurd H (by simp)
   ·rw [if_neg c4] at H
    have c4b0:decide (x7_1 < (l2.length:Int))=false:=decide_eq_false c4
    clear c4
    replace H:=Option.bind_eq_some_iff.mp H
    obtain ⟨t838,A80,H⟩:=H
    replace H:(if t838=true then (some 0) else (some 2))=some r:=H
    have A8:=aK A80
    clear A80
    by_cases c9:t838=true
    ·subst c9
     have H1:(some 0)=some r:=by rw [if_pos rfl] at H;exact H
     clear H
     have H:=H1
     clear H1
     obtain rfl:=Option.some.inj H
     go_wp2_with (first|((with_reducible refine qt_ (f:=149) rfl ?_);refine goesL_ (some 23) rfl rfl Try.func149 (by kernel_rfl) rfl #[.int .i64 a0,.int .i64 a1] rfl (by (try simp only [List.map_toArray,List.map_cons,List.map_nil]);first|done|rfl|(simp only [List.length_drop,List.length_take];rfl)) ?_;(with_reducible refine (qb3_.calls a0 a1 true _ A8.out).mono ?_);rintro e w' ⟨rfl,⟨nd,rfl⟩⟩;refine ⟨_,rfl,?_⟩))
     go_ret
     exact ⟨by first|rfl|(simp;done)|(simp [*];done)|(simp [Go.Proofs.YtaiefdhenikiiaaZ.bne_nil];done),by repeat (first|exact Drawn0.refl _|apply Drawn0.step)⟩
    ·replace c9:=Bool.eq_false_iff.mpr c9
     subst c9
     have H1:(some 2)=some r:=by rw [if_neg (show ¬ (false=true) by decide)] at H;exact H
     clear H
     have H:=H1
     clear H1
     obtain rfl:=Option.some.inj H
     go_wp2_with (first|((with_reducible refine qt_ (f:=149) rfl ?_);refine goesL_ (some 23) rfl rfl Try.func149 (by kernel_rfl) rfl #[.int .i64 a0,.int .i64 a1] rfl (by (try simp only [List.map_toArray,List.map_cons,List.map_nil]);first|done|rfl|(simp only [List.length_drop,List.length_take];rfl)) ?_;(with_reducible refine (qb3_.calls a0 a1 false _ A8.out).mono ?_);rintro e w' ⟨rfl,⟨nd,rfl⟩⟩;refine ⟨_,rfl,?_⟩))
     go_ret
     exact ⟨by first|rfl|(simp;done)|(simp [*];done)|(simp [Go.Proofs.YtaiefdhenikiiaaZ.bne_nil];done),by repeat (first|exact Drawn0.refl _|apply Drawn0.step)⟩
end Go.Proofs.Ytaiefdhenikiiaa.Base
namespace Go.Proofs.Ytaiefdhenikiiaa.Base
open Go.RowKit Go.Proofs.YtaiefdhenikiiaaW.PrintWords Go.Proofs.YtaiefdhenikiiaaW.PrintLast Go.Proofs.YtaiefdhenikiiaaW.PrintMore
attribute [local go_sem] max2_int qq1_ max_two min_two max_three min_three max_four min_four Go.Proofs.YtaiefdhenikiiaaZ.qu_   -- for this text's walks alone
set_option linter.unusedVariables false
set_option linter.unusedSimpArgs false
mutual
def qo_.l0:Nat→Int→Int→List ByteArray→Option (List ByteArray)
 | 0,_,_,_=>none
 | k+1,x0,x1,x5=>if x1 > 0 then (qo_.l1 k x0 x1 x5 (([]:List ByteArray)) 0) else (some x5)
def qo_.l1:Nat→Int→Int→List ByteArray→List ByteArray→Int→Option (List ByteArray)
 | 0,_,_,_,_,_=>none
 | k+1,x0,x1,x5,x6,x7=>if x7 < (x5.length:Int) then (qo_.l2 k x0 x1 x5 x6 x7 0) else (qo_.l0 k x0 (wrap64 (x1 - 1)) x6)
def qo_.l2:Nat→Int→Int→List ByteArray→List ByteArray→Int→Int→Option (List ByteArray)
 | 0,_,_,_,_,_,_=>none
 | k+1,x0,x1,x5,x6,x7,x8=>if x8 < x0 then (if 0≤x7 then (if x7 < (x5.length:Int) then ((some (([(wrap64 (48+x8)) % 256]:List Int):List Int)).bind fun y610=>(if (rdOf ByteArray.empty x5 x7).size+(strOfNums y610).size≤9223372036854775807 then (if x6.length < 8796093022208 then (qo_.l2 k x0 x1 x5 (x6 ++ [(rdOf ByteArray.empty x5 x7) ++ (strOfNums y610)]) x7 (wrap64 (x8+1))) else (none)) else (none))) else (none)) else (none)) else (qo_.l1 k x0 x1 x5 x6 (wrap64 (x7+1)))
end
def qo_.f (k:Nat) (a0:Int) (a1:Int):Option (List ByteArray):=qo_.l0 k a0 a1 (([(⟨#[]⟩:ByteArray)]:List ByteArray))
theorem qo_.mono_l:∀ k,(∀ y0 y1 y2,LeO (qo_.l0 k y0 y1 y2) (qo_.l0 (k+1) y0 y1 y2))∧(∀ y0 y1 y2 y3 y4,LeO (qo_.l1 k y0 y1 y2 y3 y4) (qo_.l1 (k+1) y0 y1 y2 y3 y4))∧(∀ y0 y1 y2 y3 y4 y5,LeO (qo_.l2 k y0 y1 y2 y3 y4 y5) (qo_.l2 (k+1) y0 y1 y2 y3 y4 y5))
 | 0=>⟨fun _ _ _ r h=>by simp [qo_.l0] at h,fun _ _ _ _ _ r h=>by simp [qo_.l1] at h,fun _ _ _ _ _ _ r h=>by simp [qo_.l2] at h⟩
 | k+1=>by
  obtain ⟨ih0,ih1,ih2⟩:=qo_.mono_l k
  refine ⟨?_,?_,?_⟩
  ·intro y0 y1 y2
   unfold qo_.l0
   repeat' first
   | (with_reducible exact ih0 _ _ _)
   | (with_reducible exact ih1 _ _ _ _ _)
   | (with_reducible exact ih2 _ _ _ _ _ _)
   | (with_reducible exact LeO.refl _)
   | (with_reducible exact LeO.none _)
   | (with_reducible refine LeO.ite ?_ ?_)
   | (with_reducible refine LeO.bind ?_ (fun _=>?_))
   | exact ih0 _ _ _
   | exact ih1 _ _ _ _ _
   | exact ih2 _ _ _ _ _ _
   | exact LeO.none _
   | refine LeO.ite ?_ ?_
   | refine LeO.bind ?_ (fun _=>?_)
  ·intro y0 y1 y2 y3 y4
   unfold qo_.l1
   repeat' first
   | (with_reducible exact ih0 _ _ _)
   | (with_reducible exact ih1 _ _ _ _ _)
   | (with_reducible exact ih2 _ _ _ _ _ _)
   | (with_reducible exact LeO.refl _)
   | (with_reducible exact LeO.none _)
   | (with_reducible refine LeO.ite ?_ ?_)
   | (with_reducible refine LeO.bind ?_ (fun _=>?_))
   | exact ih0 _ _ _
   | exact ih1 _ _ _ _ _
   | exact ih2 _ _ _ _ _ _
   | exact LeO.none _
   | refine LeO.ite ?_ ?_
   | refine LeO.bind ?_ (fun _=>?_)
  ·intro y0 y1 y2 y3 y4 y5
   unfold qo_.l2
   repeat' first
   | (with_reducible exact ih0 _ _ _)
   | (with_reducible exact ih1 _ _ _ _ _)
   | (with_reducible exact ih2 _ _ _ _ _ _)
   | (with_reducible exact LeO.refl _)
   | (with_reducible exact LeO.none _)
   | (with_reducible refine LeO.ite ?_ ?_)
   | (with_reducible refine LeO.bind ?_ (fun _=>?_))
   | exact ih0 _ _ _
   | exact ih1 _ _ _ _ _
   | exact ih2 _ _ _ _ _ _
   | exact LeO.none _
   | refine LeO.ite ?_ ?_
   | refine LeO.bind ?_ (fun _=>?_)
theorem qo_.mono:∀ a0 a1 k,LeO (qo_.f k a0 a1) (qo_.f (k+1) a0 a1):=by
 intro a0 a1 k
 obtain ⟨ih0,ih1,ih2⟩:=qo_.mono_l k
 unfold qo_.f
 repeat' first
   | (with_reducible exact ih0 _ _ _)
   | (with_reducible exact ih1 _ _ _ _ _)
   | (with_reducible exact ih2 _ _ _ _ _ _)
   | (with_reducible exact LeO.refl _)
   | (with_reducible exact LeO.none _)
   | (with_reducible refine LeO.ite ?_ ?_)
   | (with_reducible refine LeO.bind ?_ (fun _=>?_))
   | exact ih0 _ _ _
   | exact ih1 _ _ _ _ _
   | exact ih2 _ _ _ _ _ _
   | exact LeO.none _
   | refine LeO.ite ?_ ?_
   | refine LeO.bind ?_ (fun _=>?_)
def qo_.T11:Bool × List (List Nat × List Nat):=(true,[([],[]),([],[]),([],[]),([1,2],[1,2]),([3],[3]),([],[]),([5],[5]),([6],[6]),([7],[7]),([8],[8]),([4,9],[4,9]),([10],[10]),([0,11],[0,11]),([12,12,0,1,2,3,4,5,6,7,8,9,10,11,12],[0,12])])
def qo_.B11:List Nat:=[0,0,0,6,14,0,32,96,224,480,1022,2046,4095,8191]
theorem qo_.tab11:rtab .any (opsOf Try.f185 11)=qo_.T11:=by kernel_rfl
theorem qo_.bits11:waitsOk qo_.T11.2 qo_.B11=true:=by kernel_rfl
set_option maxHeartbeats 8000000 in
set_option maxRecDepth 100000 in
theorem qo_.calls (k:Nat) (a0:Int) (a1:Int) (r:List ByteArray) (w:World) (h:qo_.f k a0 a1=some r) :
  Calls Try.prog 185 #[.int .i64 a0,.int .i64 a1] w fun e w'=>∃ v0_:Value,e=.returned (v0_)∧Kd.R Kd.string 9 w' w.heap.size (fun _=>True) v0_ r∧Below w.heap.size w w':=by
 have HB:=aK (Below.refl w.heap.size w)
 have H:(qo_.l0 k a0 a1 (([(⟨#[]⟩:ByteArray)]:List ByteArray)))=some r:=h
 clear h
 obtain ⟨y603,hy603⟩:∃ y_:List ByteArray,y_=(([(⟨#[]⟩:ByteArray)]:List ByteArray)):=⟨_,rfl⟩
 replace H:(qo_.l0 k a0 a1 y603)=some r:=by first|(rw [hy603];with_reducible exact H)|(have H2_:=(Option.bind_some _ _).symm.trans H;rw [hy603];with_reducible exact H2_)|(have H2_:=(Option.bind_some _ _).symm.trans H;with_reducible exact H2_)|with_reducible exact H|(rw [hy603];exact H)|exact H
 have Ny603:=aK hy603
 clear hy603
 have H':=aK H
 clear H
 go_enter Try.func185,Try.ntmps185
 go_wp2_with (first|((with_reducible refine qf1_ (N:=9) rfl ?_);refine Kd.R_lit Kd.string _ 9 ?hg (N:=9) ?hd (xs:=([(⟨#[]⟩:ByteArray)]:List ByteArray)) (inner:=[.string (⟨#[]⟩:ByteArray)]) (ok:=fun _=>True) (okp:=fun _=>True) ?hr ?hp (fun _ hk=>hk) trivial (Below.refl _ _) (Nat.le_refl _) (by simp) ?_;(case hd=>rfl);(case hg=>rfl);(case hr=>first|(go_simp;done)|(go_simp;rfl));(case hp=>exact (Reps.one (show Kd.M Kd.string _ _ _ (⟨#[]⟩:ByteArray) [.string (⟨#[]⟩:ByteArray)] from rfl) (Reps.none _ _)));intro v604 w3 ho4 hb hg_ hnew_;clear hg_ hnew_;(first|rw [← Ny603.out] at ho4|(simp only [Int.reduceToNat] at ho4;rw [← Ny603.out] at ho4));have n0_:=aK (Kd.qi2_ ho4 (qk_ (by repeat (first|(with_reducible first|exact HB.out|apply qb_|apply qa_|apply qc_)|exact HB.out))));have n1_:=aK (qe_ (by repeat (first|(with_reducible first|exact HB.out|apply qb_|apply qa_|apply qc_)|exact HB.out)) hb);clear HB;have HO605:=n0_;have HB:=n1_;clear n0_ n1_;clear hb ho4))
 go_loopg [1,5] k (fun kq v1 v5 w'=>∃ (x1_1:Int) (x5_1:List ByteArray),v1=.int .i64 x1_1∧Aside0 (qo_.l0 kq a0 x1_1 x5_1=some r)∧Aside0 (kq≤k)∧Aside0 (Kd.R Kd.string 9 w' w.heap.size (fun _=>True) v5 x5_1)∧Aside0 (Below w.heap.size w w'))
 case atStart=>exact ⟨(a1),(y603),(by first|rfl|(simp;done)|(simp [*];done)),H',⟨Nat.le_refl _⟩,⟨by (with_reducible repeat (first|apply Kd.qc1_|apply Kd.qm1_|apply Kd.R_drew));exact HO605.out⟩,⟨by repeat (first|(with_reducible first|exact HB.out|apply qb_|apply qa_|apply qc_)|exact HB.out)⟩⟩
 case round =>
  clear H'
  try clear c1
  try clear p2
  obtain ⟨x1_1,x5_1,rfl,HA,HK1,HO_5,HB⟩:=hrel
  cases gk with
  | zero=>exact absurd HA.out (by simp [qo_.l0])
  | succ k1 =>
   have H:=HA.out
   clear HA
   simp only [qo_.l0] at H
   by_cases c5:x1_1 > 0
   ·rw [if_pos c5] at H
    have c5b0:decide (0 < x1_1)=true:=decide_eq_true c5
    clear c5
    obtain ⟨y606,hy606⟩:∃ y_:List ByteArray,y_=(([]:List ByteArray)):=⟨_,rfl⟩
    replace H:(qo_.l1 k1 a0 x1_1 x5_1 y606 0)=some r:=by first|(rw [hy606];with_reducible exact H)|(have H2_:=(Option.bind_some _ _).symm.trans H;rw [hy606];with_reducible exact H2_)|(have H2_:=(Option.bind_some _ _).symm.trans H;with_reducible exact H2_)|with_reducible exact H|(rw [hy606];exact H)|exact H
    have Ny606:=aK hy606
    clear hy606
    have H':=aK H
    clear H
    go_wp2_with (first|((with_reducible refine qf1_ (N:=14) rfl ?_);refine Kd.R_lit Kd.string _ 9 ?hg (N:=14) ?hd (xs:=([]:List ByteArray)) (inner:=[]) (ok:=fun _=>True) (okp:=fun _=>True) ?hr ?hp (fun _ hk=>hk) trivial (Below.refl _ _) (Nat.le_refl _) (by simp) ?_;(case hd=>rfl);(case hg=>rfl);(case hr=>first|(go_simp;done)|(go_simp;rfl));(case hp=>exact (Reps.none _ _));intro v607 w6 ho7 hb hg_ hnew_;clear hg_ hnew_;(first|rw [← Ny606.out] at ho7|(simp only [Int.reduceToNat] at ho7;rw [← Ny606.out] at ho7));have n0_:=aK (Kd.R_elder' (by (with_reducible repeat (first|apply Kd.qc1_|apply Kd.qm1_|apply Kd.R_drew));exact HO_5.out) (Kd.R_base ho7) hb);have n1_:=aK (Kd.qi2_ (Kd.R_new' ho7 (Kd.R_lt (by (with_reducible repeat (first|apply Kd.qc1_|apply Kd.qm1_|apply Kd.R_drew));exact HO_5.out))) (qk_ (by repeat (first|(with_reducible first|exact HB.out|apply qb_|apply qa_|apply qc_)|exact HB.out))));have n2_:=aK (qe_ (by repeat (first|(with_reducible first|exact HB.out|apply qb_|apply qa_|apply qc_)|exact HB.out)) hb);clear HO_5;clear HB;have HO_5:=n0_;have HO608:=n1_;have HB:=n2_;clear n0_ n1_ n2_;clear hb ho7))
    go_loopg [6,7] k1 (fun kq v6 v7 w'=>∃ (x6_2:List ByteArray) (x7_2:Int),v7=.int .i64 x7_2∧Aside0 (qo_.l1 kq a0 x1_1 x5_1 x6_2 x7_2=some r)∧Aside0 (kq≤k1)∧Aside0 (Kd.R Kd.string 9 w' w.heap.size (fun k_=>some k_ ≠ (v6:Value).ownBlock) u5 x5_1)∧Aside0 (Kd.R Kd.string 9 w' w.heap.size (fun k_=>some k_ ≠ (u5:Value).ownBlock) v6 x6_2)∧Aside0 (Below w.heap.size w w'))
    case atStart=>exact ⟨(y606),(0),(by first|rfl|(simp;done)|(simp [*];done)),H',⟨Nat.le_refl _⟩,⟨by (with_reducible repeat (first|apply Kd.qc1_|apply Kd.qm1_|apply Kd.R_drew));exact Kd.R_mono HO_5.out (fun _ hk=>hk.2)⟩,⟨by (with_reducible repeat (first|apply Kd.qc1_|apply Kd.qm1_|apply Kd.R_drew));exact Kd.R_mono HO608.out (fun _ hk=>hk.2)⟩,⟨by repeat (first|(with_reducible first|exact HB.out|apply qb_|apply qa_|apply qc_)|exact HB.out)⟩⟩
    case round =>
     clear H'
     try clear c1
     try clear p2
     try clear c5
     try clear c5b0
     try clear p2
     obtain ⟨x6_2,x7_2,rfl,HA,HK2,HO_5,HO_6,HB⟩:=hrel
     cases gk with
     | zero=>exact absurd HA.out (by simp [qo_.l1])
     | succ k2 =>
      have H:=HA.out
      clear HA
      simp only [qo_.l1] at H
      by_cases c8:x7_2 < (x5_1.length:Int)
      ·rw [if_pos c8] at H
       have c8b0:decide (x7_2 < (x5_1.length:Int))=true:=decide_eq_true c8
       clear c8
       have H':=aK H
       clear H
       obtain ⟨Ao9,co9,eo9⟩:=Kd.qa2_ HO_5.out
       subst eo9
       go_wp2
       go_loopg [6,8] k2 (fun kq v6 v8 w'=>∃ (x6_3:List ByteArray) (x8_3:Int),v8=.int .i64 x8_3∧Aside0 (qo_.l2 kq a0 x1_1 x5_1 x6_3 x7_2 x8_3=some r)∧Aside0 (kq≤k2)∧Aside0 (Kd.R Kd.string 9 w' w.heap.size (fun k_=>some k_ ≠ (v6:Value).ownBlock) (.slice Ao9 x5_1.length co9) x5_1)∧Aside0 (Kd.R Kd.string 9 w' w.heap.size (fun k_=>some k_ ≠ ((.slice Ao9 x5_1.length co9):Value).ownBlock) v6 x6_3)∧Aside0 (Below w.heap.size w w'))
       case atStart=>exact ⟨(x6_2),(0),(by first|rfl|(simp;done)|(simp [*];done)),H',⟨Nat.le_refl _⟩,⟨by (with_reducible repeat (first|apply Kd.qc1_|apply Kd.qm1_|apply Kd.R_drew));exact HO_5.out⟩,⟨by (with_reducible repeat (first|apply Kd.qc1_|apply Kd.qm1_|apply Kd.R_drew));exact HO_6.out⟩,⟨by repeat (first|(with_reducible first|exact HB.out|apply qb_|apply qa_|apply qc_)|exact HB.out)⟩⟩
       case round =>
        clear H'
        try clear c1
        try clear p2
        try clear c5
        try clear c5b0
        try clear c8
        try clear c8b0
        try clear p2
        obtain ⟨x6_3,x8_3,rfl,HA,HK3,HO_5,HO_6,HB⟩:=hrel
        cases gk with
        | zero=>exact absurd HA.out (by simp [qo_.l2])
        | succ k3 =>
         have H:=HA.out
         clear HA
         simp only [qo_.l2] at H
         by_cases c10:x8_3 < a0
         ·rw [if_pos c10] at H
          have c10b0:decide (x8_3 < a0)=true:=decide_eq_true c10
          clear c10
          by_cases c11:0≤x7_2
          ·rw [if_pos c11] at H
           have c11b0:decide (0≤x7_2)=true:=decide_eq_true c11
           clear c11
           by_cases c12:x7_2 < (x5_1.length:Int)
           ·rw [if_pos c12] at H
            have c12b0:decide (x7_2 < (x5_1.length:Int))=true:=decide_eq_true c12
            clear c12
            obtain ⟨y610,hy610⟩:∃ y_:List Int,y_=(([(wrap64 (48+x8_3)) % 256]:List Int)):=⟨_,rfl⟩
            replace H:(if (rdOf ByteArray.empty x5_1 x7_2).size+(strOfNums y610).size≤9223372036854775807 then (if x6_3.length < 8796093022208 then (qo_.l2 k3 a0 x1_1 x5_1 (x6_3 ++ [(rdOf ByteArray.empty x5_1 x7_2) ++ (strOfNums y610)]) x7_2 (wrap64 (x8_3+1))) else (none)) else (none))=some r:=by first|(rw [hy610];with_reducible exact H)|(have H2_:=(Option.bind_some _ _).symm.trans H;rw [hy610];with_reducible exact H2_)|(have H2_:=(Option.bind_some _ _).symm.trans H;with_reducible exact H2_)|with_reducible exact H|(rw [hy610];exact H)|exact H
            have Ny610:=aK hy610
            clear hy610
            by_cases c13:(rdOf ByteArray.empty x5_1 x7_2).size+(strOfNums y610).size≤9223372036854775807
            ·rw [if_pos c13] at H
             have c13b0:=eq_true c13
             have c13b1:decide ((rdOf ByteArray.empty x5_1 x7_2).size+(strOfNums y610).size≤9223372036854775807)=true:=decide_eq_true c13
             try have c13b2:(9223372036854775807 < (rdOf ByteArray.empty x5_1 x7_2).size+(strOfNums y610).size)=False:=eq_false (Nat.not_lt.2 c13)
             by_cases c14:x6_3.length < 8796093022208
             ·rw [if_pos c14] at H
              have LMc14:=aK c14
              clear c14
              obtain ⟨y613,hy613⟩:∃ y_:List ByteArray,y_=(x6_3 ++ [(rdOf ByteArray.empty x5_1 x7_2) ++ (strOfNums y610)]):=⟨_,rfl⟩
              replace H:(qo_.l2 k3 a0 x1_1 x5_1 y613 x7_2 (wrap64 (x8_3+1)))=some r:=by first|(rw [hy613];with_reducible exact H)|(have H2_:=(Option.bind_some _ _).symm.trans H;rw [hy613];with_reducible exact H2_)|(have H2_:=(Option.bind_some _ _).symm.trans H;with_reducible exact H2_)|with_reducible exact H|(rw [hy613];exact H)|exact H
              have Ny613:=aK hy613
              clear hy613
              have H':=aK H
              clear H
              try go_wp2
              have n0_:=aK (Kd.R_drew HO_5.out)
              have n1_:=aK (Kd.R_drew HO_6.out)
              have n2_:=aK (qc_ HB.out)
              clear HO_5
              clear HO_6
              clear HB
              have HO_5:=n0_
              have HO_6:=n1_
              have HB:=n2_
              clear n0_ n1_ n2_
              have p609:0≤(x7_2:Int):=of_decide_eq_true (by first|(with_reducible assumption)|assumption)
              have q609:x7_2 < (x5_1.length:Int):=of_decide_eq_true (by first|(with_reducible assumption)|assumption)
              obtain ⟨ad609,e609,hx609_0⟩:=Kd.at_string (Kd.qa3_ HO_5.out).2.2 x7_2 p609 q609
              cases e609
              replace p609:=eq_true p609
              replace q609:=eq_true q609
              refine start_ (n:=14) (S:=fun w'=>w'.cell? (ad609.add (x7_2).toNat)=some (.string (rdOf ByteArray.empty x5_1 x7_2))) (ds:=[11,12]) #[fF,fF,fF,fF,fF,fF,fF,fF,fF,fF,fF,fF,fF,fF] (by kernel_rfl) rfl rfl (hx609_0) (fun hHeld=>?_);refine with_tabW qo_.tab11 qo_.bits11 (fun HT_ HW_=>?_)
              generalize wr.drew=w15 at HO_5 HO_6 HB hx609_0 hHeld ⊢
              refine pure_ (i:=0) (N:=some 26) (v:=?_) (a':=?_) #[tT,fF,fF,fF,fF,fF,fF,fF,fF,fF,fF,fF,fF,fF] rfl rfl (any_of HT_.out (by kernel_rfl)) (fun _ _ _ h=>h) (Or.inl ⟨by rfl,?_⟩) ?_ ?_
              rotate_left
              ·intro w'
               go_simp
               with_reducible rfl
              rotate_left
              ·simp only [Act.put,List.setIfInBounds_toArray,List.set_cons_zero,List.set_cons_succ,i64_w,i32_w]
               rfl
              refine pure_ (i:=1) (N:=some 27) (v:=?_) (a':=?_) #[tT,tT,fF,fF,fF,fF,fF,fF,fF,fF,fF,fF,fF,fF] rfl rfl (any_of HT_.out (by kernel_rfl)) (fun _ _ _ h=>h) (Or.inl ⟨by rfl,?_⟩) ?_ ?_
              rotate_left
              ·intro w'
               go_simp
               with_reducible rfl
              rotate_left
              ·simp only [Act.put,List.setIfInBounds_toArray,List.set_cons_zero,List.set_cons_succ,i64_w,i32_w]
               rfl
              refine pure_ (i:=2) (N:=some 28) (v:=?_) (a':=?_) #[tT,tT,tT,fF,fF,fF,fF,fF,fF,fF,fF,fF,fF,fF] rfl rfl (any_of HT_.out (by kernel_rfl)) (fun _ _ _ h=>h) (Or.inl ⟨by rfl,?_⟩) ?_ ?_
              rotate_left
              ·intro w'
               go_simp
               with_reducible rfl
              rotate_left
              ·simp only [Act.put,List.setIfInBounds_toArray,List.set_cons_zero,List.set_cons_succ,i64_w,i32_w]
               rfl
              refine pure_ (i:=3) (N:=some 29) (v:=?_) (a':=?_) #[tT,tT,tT,tT,fF,fF,fF,fF,fF,fF,fF,fF,fF,fF] rfl rfl (any_of HT_.out (by kernel_rfl)) (fun _ _ _ h=>h) (Or.inl ⟨by rfl,?_⟩) ?_ ?_
              rotate_left
              ·intro w'
               go_simp
               with_reducible rfl
              rotate_left
              ·simp only [Act.put,List.setIfInBounds_toArray,List.set_cons_zero,List.set_cons_succ,i64_w,i32_w]
               rfl
              refine pure_ (i:=5) (N:=some 31) (v:=?_) (a':=?_) #[tT,tT,tT,tT,fF,tT,fF,fF,fF,fF,fF,fF,fF,fF] rfl rfl (any_of HT_.out (by kernel_rfl)) (fun _ _ _ h=>h) (Or.inl ⟨by rfl,?_⟩) ?_ ?_
              rotate_left
              ·intro w'
               go_simp
               with_reducible rfl
              rotate_left
              ·simp only [Act.put,List.setIfInBounds_toArray,List.set_cons_zero,List.set_cons_succ,i64_w,i32_w]
               rfl
              refine pure_ (i:=6) (N:=some 32) (v:=?_) (a':=?_) #[tT,tT,tT,tT,fF,tT,tT,fF,fF,fF,fF,fF,fF,fF] rfl rfl (any_of HT_.out (by kernel_rfl)) (fun _ _ _ h=>h) (Or.inl ⟨by rfl,?_⟩) ?_ ?_
              rotate_left
              ·intro w'
               go_simp
               with_reducible rfl
              rotate_left
              ·simp only [Act.put,List.setIfInBounds_toArray,List.set_cons_zero,List.set_cons_succ,i64_w,i32_w]
               rfl
              refine pure_ (i:=7) (N:=some 33) (v:=?_) (a':=?_) #[tT,tT,tT,tT,fF,tT,tT,tT,fF,fF,fF,fF,fF,fF] rfl rfl (any_of HT_.out (by kernel_rfl)) (fun _ _ _ h=>h) (Or.inl ⟨by rfl,?_⟩) ?_ ?_
              rotate_left
              ·intro w'
               go_simp
               with_reducible rfl
              rotate_left
              ·simp only [Act.put,List.setIfInBounds_toArray,List.set_cons_zero,List.set_cons_succ,i64_w,i32_w]
               rfl
              refine take_ (i:=4) (N:=some 30) (v:=?_) (a':=?_) #[tT,tT,tT,tT,tT,tT,tT,tT,fF,fF,fF,fF,fF,fF] rfl rfl (take_ofW HT_.out HW_.out (by kernel_rfl)) (fun _ _ _ h=>h) (Or.inl ⟨by rfl,?_⟩) hHeld ?_ ?_
              rotate_left
              ·intro w' s0
               go_simp
               with_reducible rfl
              rotate_left
              ·simp only [Act.put,List.setIfInBounds_toArray,List.set_cons_zero,List.set_cons_succ,i64_w,i32_w]
               rfl
              refine one_ (i:=8) (N:=some 34) #[tT,tT,tT,tT,tT,tT,tT,tT,tT,fF,fF,fF,fF,fF] rfl rfl (one_of HT_.out (by kernel_rfl)) (by decide) (fun K hK=>?_)
              refine Kd.R_lit_step (Kd.int .u8) _ 5 ?hg (N:=34) ?hd (xs:=([(wrap64 (48+x8_3)) % 256]:List Int)) (inner:=[.int .u8 ((wrap64 (48+x8_3)) % 256)]) (ok:=fun _=>True) (okp:=fun _=>True) ?hr ?hp (fun _ hk=>hk) trivial (Below.refl _ _) (Nat.le_refl _) (by simp) ?_;(case hd=>rfl);(case hg=>rfl);(case hr=>first|(go_simp;done)|(go_simp;rfl));(case hp=>exact (Reps.one (show Kd.M (Kd.int .u8) _ _ _ ((wrap64 (48+x8_3)) % 256) [.int .u8 ((wrap64 (48+x8_3)) % 256)] from rfl) (Reps.none _ _)))
              intro v611 w16 ho17 hb hg_ hnew_
              have HS0_:=(hb.cell (World.block_lt_of_cell? _ _ (hHeld))).trans (hHeld)
              clear hg_ hnew_
              (first|rw [← Ny610.out] at ho17|(simp only [Int.reduceToNat] at ho17;rw [← Ny610.out] at ho17))
              have n0_:=aK (Kd.qe2_ (by (with_reducible repeat (first|apply Kd.qc1_|apply Kd.qm1_|apply Kd.R_drew));exact HO_5.out) hb)
              have n1_:=aK (Kd.qe2_ (by (with_reducible repeat (first|apply Kd.qc1_|apply Kd.qm1_|apply Kd.R_drew));exact HO_6.out) hb)
              have n2_:=aK (Kd.qi2_ ho17 (qk_ (by repeat (first|(with_reducible first|exact HB.out|apply qb_|apply qa_|apply qc_)|exact HB.out))))
              have n3_:=aK (qe_ (by repeat (first|(with_reducible first|exact HB.out|apply qb_|apply qa_|apply qc_)|exact HB.out)) hb)
              clear HO_5
              clear HO_6
              clear HB
              have HO_5:=n0_
              have HO_6:=n1_
              have HO612:=n2_
              have HB:=n3_
              clear n0_ n1_ n2_ n3_
              clear hb ho17
              refine hK.out _ _ (HS0_) (fun hHeld=>?_)
              clear hK K
              refine norm_ (a':=?_) ?_ ?_
              rotate_left
              ·show Act.put _ (some 34) _=_
               simp only [Act.put,List.setIfInBounds_toArray,List.set_cons_zero,List.set_cons_succ,i64_w,i32_w]
               rfl
              refine one_ (i:=9) (N:=some 35) #[tT,tT,tT,tT,tT,tT,tT,tT,tT,tT,fF,fF,fF,fF] rfl rfl (one_of HT_.out (by kernel_rfl)) (by decide) (fun K hK=>?_)
              have hcv18:=own_string (P:=Try.prog) Try.underlying140 Try.underlying5 Try.underlying9 (Kd.own_of_R HO612.out)
              refine value_ (w1:=?_) (v:=?_) (by rfl) rfl ?_ ?_
              rotate_left 2
              ·go_simp
               constructor
               ·rfl
               ·rfl
              clear hcv18
              refine hK.out _ _ (hHeld) (fun hHeld=>?_)
              clear hK K
              refine norm_ (a':=?_) ?_ ?_
              rotate_left
              ·show Act.put _ (some 35) _=_
               simp only [Act.put,List.setIfInBounds_toArray,List.set_cons_zero,List.set_cons_succ,i64_w,i32_w]
               rfl
              refine pure_ (i:=10) (N:=some 36) (v:=?_) (a':=?_) #[tT,tT,tT,tT,tT,tT,tT,tT,tT,tT,tT,fF,fF,fF] rfl rfl (any_of HT_.out (by kernel_rfl)) (fun _ _ _ h=>h) (Or.inl ⟨by rfl,?_⟩) ?_ ?_
              rotate_left
              ·intro w'
               go_simp
               with_reducible rfl
              rotate_left
              ·simp only [Act.put,List.setIfInBounds_toArray,List.set_cons_zero,List.set_cons_succ,i64_w,i32_w]
               rfl
              refine last_ (i:=11) (N:=some 37) #[tT,tT,tT,tT,tT,tT,tT,tT,tT,tT,tT,tT,fF,fF] rfl rfl (one_of HT_.out (by kernel_rfl)) (by decide) (fun K hK=>?_)
              refine value_ (w1:=?_) (v:=?_) (by rfl) rfl ?_ ?_
              rotate_left 2
              ·go_simp
               constructor
               ·rfl
               ·rfl
              refine hK.out _ _ ?_
              clear hK K
              refine norm_ (a':=?_) ?_ ?_
              rotate_left
              ·show Act.put _ (some 37) _=_
               simp only [Act.put,List.setIfInBounds_toArray,List.set_cons_zero,List.set_cons_succ,i64_w,i32_w]
               rfl
              refine last_ (i:=12) (N:=some 38) #[tT,tT,tT,tT,tT,tT,tT,tT,tT,tT,tT,tT,tT,fF] rfl rfl (one_of HT_.out (by kernel_rfl)) (by decide) (fun K hK=>?_)
              refine Kd.qe3_ Kd.string (w0:=w) w.heap.size (by rfl) (.tmp 26) (.tmp 37) 156 9 (.string ⟨#[]⟩) 16 rfl Try.underlying156 info9 rfl (by decide) (by omega) u6 x6_3 ((rdOf ByteArray.empty x5_1 x7_2) ++ (strOfNums y610)) [.string ((rdOf ByteArray.empty x5_1 x7_2) ++ (strOfNums y610))] (fun k_=>some k_ ≠ (.slice (some ad609) x5_1.length co9:Value).ownBlock) (fun _=>False) rfl rfl ?aP (fun _ hk=>hk.elim) ?aF ?aO ?aB ?aS ?aL ?_
              (case aP=>exact rfl)
              (case aB=>exact (by repeat (first|(with_reducible first|exact HB.out|apply qb_|apply qa_|apply qc_)|exact HB.out)))
              (case aF=>exact (fun k_ hk=>Kd.fresh' (Kd.R_lt (by (with_reducible repeat (first|apply Kd.qc1_|apply Kd.qm1_|apply Kd.R_drew));exact HO_5.out)) k_ hk))
              (case aO=>exact (by (with_reducible repeat (first|apply Kd.qc1_|apply Kd.qm1_|apply Kd.R_drew));exact HO_6.out))
              (case aS=>exact (qk_ (by repeat (first|(with_reducible first|exact HB.out|apply qb_|apply qa_|apply qc_)|exact HB.out))))
              (case aL=>have:=LMc14.out;omega)
              intro v614 w19 ho hb hg hat
              rw [← Ny613.out] at ho
              have n0_:=aK (Kd.R_after (ok:=(fun _=>True)) (by (with_reducible repeat (first|apply Kd.qc1_|apply Kd.qm1_|apply Kd.R_drew));exact Kd.R_mono HO_5.out (fun _ hk=>⟨trivial,hk⟩)) hg hat)
              have n1_:=aK (Kd.R_over' (by (with_reducible repeat (first|apply Kd.qc1_|apply Kd.qm1_|apply Kd.R_drew));exact HO612.out) (Kd.R_typed (by (with_reducible repeat (first|apply Kd.qc1_|apply Kd.qm1_|apply Kd.R_drew));exact HO_6.out)) (by decide) hg)
              have n2_:=aK (hb)
              have n3_:=aK (ho)
              clear HO_5
              clear HO612
              clear HB
              clear HO_6
              have HO_5:=n0_
              have HO612:=n1_
              have HB:=n2_
              have HO615:=n3_
              clear n0_ n1_ n2_ n3_
              clear ho hb hg hat
              refine hK.out _ _ ?_
              clear hK K
              refine norm_ (a':=?_) ?_ ?_
              rotate_left
              ·show Act.put _ (some 38) _=_
               simp only [Act.put,List.setIfInBounds_toArray,List.set_cons_zero,List.set_cons_succ,i64_w,i32_w]
               rfl
              refine pure_ (i:=13) (N:=some 6) (v:=?_) (a':=?_) #[tT,tT,tT,tT,tT,tT,tT,tT,tT,tT,tT,tT,tT,tT] rfl rfl (any_of HT_.out (by kernel_rfl)) (fun _ _ _ h=>h) (Or.inl ⟨by rfl,?_⟩) ?_ ?_
              rotate_left
              ·intro w'
               go_simp
               with_reducible rfl
              rotate_left
              ·simp only [Act.put,List.setIfInBounds_toArray,List.set_cons_zero,List.set_cons_succ,i64_w,i32_w]
               rfl
              refine done_ (done_of HT_.out (by kernel_rfl)) ?_
              try go_wp2
              go_roundg k3
              case measure=>have:=HK1.out;have:=HK2.out;have:=HK3.out;omega
              case rel=>exact ⟨(y613),(wrap64 (x8_3+1)),(by first|rfl|(simp;done)|(simp [*];done)),H',⟨by have:=HK1.out;have:=HK2.out;have:=HK3.out;omega⟩,⟨by (with_reducible repeat (first|apply Kd.qc1_|apply Kd.qm1_|apply Kd.R_drew));exact Kd.R_mono HO_5.out (fun _ hk=>hk.2)⟩,⟨by (with_reducible repeat (first|apply Kd.qc1_|apply Kd.qm1_|apply Kd.R_drew));exact HO615.out⟩,⟨by repeat (first|(with_reducible first|exact HB.out|apply qb_|apply qa_|apply qc_)|exact HB.out)⟩⟩
             ·rw [if_neg c14] at H
              exact absurd H (by simp)
            ·rw [if_neg c13] at H
             exact absurd H (by simp)
           ·rw [if_neg c12] at H
            exact absurd H (by simp)
          ·rw [if_neg c11] at H
           exact absurd H (by simp)
         ·rw [if_neg c10] at H
          have c10b0:decide (x8_3 < a0)=false:=decide_eq_false c10
          clear c10
          have H':=aK H
          clear H
          go_wp2
          go_roundg k3
          case measure=>have:=HK1.out;have:=HK2.out;have:=HK3.out;omega
          case rel=>exact ⟨(x6_3),(wrap64 (x7_2+1)),(by first|rfl|(simp;done)|(simp [*];done)),H',⟨by have:=HK1.out;have:=HK2.out;have:=HK3.out;omega⟩,⟨by (with_reducible repeat (first|apply Kd.qc1_|apply Kd.qm1_|apply Kd.R_drew));exact HO_5.out⟩,⟨by (with_reducible repeat (first|apply Kd.qc1_|apply Kd.qm1_|apply Kd.R_drew));exact HO_6.out⟩,⟨by repeat (first|(with_reducible first|exact HB.out|apply qb_|apply qa_|apply qc_)|exact HB.out)⟩⟩
      ·rw [if_neg c8] at H
       have c8b0:decide (x7_2 < (x5_1.length:Int))=false:=decide_eq_false c8
       clear c8
       have H':=aK H
       clear H
       obtain ⟨Ao20,co20,eo20⟩:=Kd.qa2_ HO_5.out
       subst eo20
       go_wp2
       go_roundg k2
       case measure=>have:=HK1.out;have:=HK2.out;omega
       case rel=>exact ⟨(wrap64 (x1_1 - 1)),(x6_2),(by first|rfl|(simp;done)|(simp [*];done)),H',⟨by have:=HK1.out;have:=HK2.out;omega⟩,⟨by (with_reducible repeat (first|apply Kd.qc1_|apply Kd.qm1_|apply Kd.R_drew));exact Kd.R_mono HO_6.out (fun _ hk=>trivial)⟩,⟨by repeat (first|(with_reducible first|exact HB.out|apply qb_|apply qa_|apply qc_)|exact HB.out)⟩⟩
   ·rw [if_neg c5] at H
    have c5b0:decide (0 < x1_1)=false:=decide_eq_false c5
    clear c5
    obtain rfl:=Option.some.inj H
    go_wp2
    go_ret
    exact ⟨_,by first|rfl|(simp [qn_,qm_] <;> rfl)|(simp [*,qn_,qm_] <;> rfl),by (with_reducible repeat (first|apply Kd.qc1_|apply Kd.qm1_|apply Kd.R_drew));exact HO_5.out,by repeat (first|(with_reducible first|exact HB.out|apply qb_|apply qa_|apply qc_)|exact HB.out)⟩
end Go.Proofs.Ytaiefdhenikiiaa.Base
namespace Go.Proofs.Ytaiefdhenikiiaa.Base
open Go.RowKit Go.Proofs.YtaiefdhenikiiaaW.PrintWords Go.Proofs.YtaiefdhenikiiaaW.PrintLast Go.Proofs.YtaiefdhenikiiaaW.PrintMore
attribute [local go_sem] max2_int qq1_ max_two min_two max_three min_three max_four min_four Go.Proofs.YtaiefdhenikiiaaZ.qu_   -- for this text's walks alone
set_option linter.unusedVariables false
set_option linter.unusedSimpArgs false
def qp2_.f (a0_0:Int) (a0_1:Int) (l0_2:List (S79)):Option (Int × Int × (List (S79))):=(qu2_.f a0_0 a0_1 l0_2).bind fun bt841=>((qt2_.f 1).bind fun bt847=>(if bt841.2.2.length < 4398046511104 then (some (bt841.1,bt841.2.1,(bt841.2.2 ++ [(⟨(⟨#[]⟩:ByteArray),(⟨bt847.1,bt847.2⟩:S77)⟩:S79)]))) else (none)))
def qp2_.T2:Bool × List (List Nat × List Nat):=(true,[([],[]),([0],[0]),([],[]),([2],[2]),([3],[3]),([1,4,2],[1,4]),([0,1,2,3,4,5],[]),([6,5,5,0,1,2,3,4,5],[5,6])])
def qp2_.B2:List Nat:=[0,1,0,4,12,31,63,127]
theorem qp2_.tab2:rtab .any (opsOf Try.f132 2)=qp2_.T2:=by kernel_rfl
theorem qp2_.bits2:waitsOk qp2_.T2.2 qp2_.B2=true:=by kernel_rfl
set_option maxHeartbeats 8000000 in
set_option maxRecDepth 100000 in
theorem qp2_.calls (a0_0:Int) (a0_1:Int) (A0_2:Option Addr) (c0_2:Nat) (l0_2:List (S79)) (r1:Int) (r2:Int) (r3:List (S79)) (w:World) (hr0_2:Kd.C k79 w A0_2 l0_2.length l0_2) (hc0_2:l0_2.length≤c0_2) (h:qp2_.f a0_0 a0_1 l0_2=some (r1,r2,r3)) :
  Calls Try.prog 132 #[.agg #[.int .i64 a0_0,.int .i64 a0_1,.slice A0_2 l0_2.length c0_2]] w fun e w'=>∃ v2_:Value,e=.returned (.agg #[.int .i64 r1,.int .i64 r2,v2_])∧Kd.R k79 79 w' w.heap.size (fun _=>True) v2_ r3∧Below w.heap.size w w':=by
 have hu38:=Try.underlying38
 have hu79:=Try.underlying79
 have HR0_2:=aK hr0_2
 have HC0_2:=aK hc0_2
 clear hr0_2 hc0_2
 have HB:=aK (Below.refl w.heap.size w)
 have H:((qu2_.f a0_0 a0_1 l0_2).bind fun bt841=>((qt2_.f 1).bind fun bt847=>(if bt841.2.2.length < 4398046511104 then (some (bt841.1,bt841.2.1,(bt841.2.2 ++ [(⟨(⟨#[]⟩:ByteArray),(⟨bt847.1,bt847.2⟩:S77)⟩:S79)]))) else (none))))=some (r1,r2,r3):=h
 clear h
 replace H:=Option.bind_eq_some_iff.mp H
 obtain ⟨⟨t841,t842,t843⟩,A20,H⟩:=H
 replace H:((qt2_.f 1).bind fun bt847=>(if t843.length < 4398046511104 then (some (t841,t842,(t843 ++ [(⟨(⟨#[]⟩:ByteArray),(⟨bt847.1,bt847.2⟩:S77)⟩:S79)]))) else (none)))=some (r1,r2,r3):=H
 have A2:=aK A20
 clear A20
 replace H:=Option.bind_eq_some_iff.mp H
 obtain ⟨⟨t847,t848⟩,A30,H⟩:=H
 replace H:(if t843.length < 4398046511104 then (some (t841,t842,(t843 ++ [(⟨(⟨#[]⟩:ByteArray),(⟨t847,t848⟩:S77)⟩:S79)]))) else (none))=some (r1,r2,r3):=H
 have A3:=aK A30
 clear A30
 by_cases c4:t843.length < 4398046511104
 ·rw [if_pos c4] at H
  have LMc4:=aK c4
  clear c4
  obtain ⟨y849,hy849⟩:∃ y_:List (S79),y_=(t843 ++ [(⟨(⟨#[]⟩:ByteArray),(⟨t847,t848⟩:S77)⟩:S79)]):=⟨_,rfl⟩
  replace H:(some (t841,t842,y849))=some (r1,r2,r3):=by first|(rw [hy849];with_reducible exact H)|(have H2_:=(Option.bind_some _ _).symm.trans H;rw [hy849];with_reducible exact H2_)|(have H2_:=(Option.bind_some _ _).symm.trans H;with_reducible exact H2_)|with_reducible exact H|(rw [hy849];exact H)|exact H
  have Ny849:=aK hy849
  clear hy849
  simp only [Option.some.injEq,Prod.mk.injEq] at H
  obtain ⟨rfl,rfl,rfl⟩:=H
  go_enter Try.func132,Try.ntmps132
  try go_wp2_with (first|((with_reducible refine qf1_ (N:=1) rfl ?_);refine qg1_ ?hg (N:=1) ?hd (cs:=#[.int .i64 a0_0,.int .i64 a0_1,.slice A0_2 l0_2.length c0_2]) (t:=38) ?hr ?_;(case hd=>rfl);(case hg=>rfl);(case hr=>first|(go_simp;done)|(go_simp;rfl));intro gb839 hg w5 hbox hb;have n0_:=aK (qe_ (by repeat (first|(with_reducible first|exact HB.out|apply qb_|apply qa_|apply qc_)|exact HB.out)) hb);have n1_:=aK (hbox);have n2_:=aK ((by rw [hg];exact (qk_ (by repeat (first|(with_reducible first|exact HB.out|apply qb_|apply qa_|apply qc_)|exact HB.out))):w.heap.size≤gb839));have n3_:=aK ((by rw [hg];exact (qk_ (by repeat (first|(with_reducible first|exact HB.out|apply qb_|apply qa_|apply qc_)|exact HB.out))):w.heap.size≤gb839));clear HB;have HB:=n0_;have BK839:=n1_;have GW839:=n2_;have GE839:=n3_;clear n0_ n1_ n2_ n3_;clear hb hbox hg)|((with_reducible refine qf1_ (N:=2) rfl ?_);refine qg1_ ?hg (N:=2) ?hd (cs:=#[.int .i64 0,.int .i64 0,.slice none 0 0]) (t:=38) ?hr ?_;(case hd=>rfl);(case hg=>rfl);(case hr=>first|(go_simp;done)|(go_simp;rfl));intro gb840 hg w6 hbox hb;have n0_:=aK (ql_ (g:=gb839) (o:=.cells #[.int .i64 a0_0,.int .i64 a0_1,.slice A0_2 l0_2.length c0_2] 38 (0,0)) (by (with_reducible repeat (first|refine qg_ ?_ _|refine qi_ ?_|refine qf_ ?_ _));exact BK839.out) hb);have n1_:=aK (qe_ (by repeat (first|(with_reducible first|exact HB.out|apply qb_|apply qa_|apply qc_|refine qh_ ?_ GE839.out)|exact HB.out)) hb);have n2_:=aK (hbox);have n3_:=aK ((by rw [hg];exact (qk_ (by repeat (first|(with_reducible first|exact HB.out|apply qb_|apply qa_|apply qc_|refine qh_ ?_ GE839.out)|exact HB.out))):w.heap.size≤gb840));have n4_:=aK ((by rw [hg];exact (qk_ (by repeat (first|(with_reducible first|exact HB.out|apply qb_|apply qa_|apply qc_|refine qh_ ?_ GE839.out)|exact HB.out))):w.heap.size≤gb840));have n5_:=aK ((by rw [hg];exact Nat.ne_of_lt (blk_lt (g:=gb839) (o:=.cells #[.int .i64 a0_0,.int .i64 a0_1,.slice A0_2 l0_2.length c0_2] 38 (0,0)) (by (with_reducible repeat (first|refine qg_ ?_ _|refine qi_ ?_|refine qf_ ?_ _));exact BK839.out)):gb839 ≠ gb840));have n6_:=aK ((by rw [hg];exact Nat.ne_of_gt (blk_lt (g:=gb839) (o:=.cells #[.int .i64 a0_0,.int .i64 a0_1,.slice A0_2 l0_2.length c0_2] 38 (0,0)) (by (with_reducible repeat (first|refine qg_ ?_ _|refine qi_ ?_|refine qf_ ?_ _));exact BK839.out)):gb840 ≠ gb839));clear BK839;clear HB;have BK839:=n0_;have HB:=n1_;have BK840:=n2_;have GW840:=n3_;have GE840:=n4_;have NB839_840:=n5_;have NB840_839:=n6_;clear n0_ n1_ n2_ n3_ n4_ n5_ n6_;clear hb hbox hg;have hnb7:=NB839_840.out;have hnc7:=NB840_839.out;have hcz8_0:w6.cell? ⟨gb839,0,none⟩=some (.int .i64 a0_0):=(qj_ BK839.out 0).trans rfl;have hcz8_1:w6.cell? ⟨gb839,1,none⟩=some (.int .i64 a0_1):=(qj_ BK839.out 1).trans rfl;have hcz8_2:w6.cell? ⟨gb839,2,none⟩=some (.slice A0_2 l0_2.length c0_2):=(qj_ BK839.out 2).trans rfl;have hfz8_0:=qd_ BK839.out 0;have hfz8_1:=qd_ BK839.out 1;have hfz8_2:=qd_ BK839.out 2)|((with_reducible refine qt_ (f:=108) rfl ?_);refine goesL_ (some 5) rfl rfl Try.func108 (by kernel_rfl) rfl #[.agg #[.int .i64 a0_0,.int .i64 a0_1,.slice A0_2 l0_2.length c0_2]] rfl (by (try simp only [List.map_toArray,List.map_cons,List.map_nil]);first|done|rfl|(simp only [List.length_drop,List.length_take];rfl)) ?_;(with_reducible refine (qu2_.calls a0_0 a0_1 _ _ l0_2 t841 t842 t843 _ ?side1 ?side2 A2.out).mono ?_);(case side1=>repeat (first|exact (Kd.qw1_ HR0_2.out HB.out)|(with_reducible refine Kd.qs2_ ?_ _)|(with_reducible refine Kd.qr2_ ?_ _)|(with_reducible refine Kd.C_drew ?_)));(case side2=>exact HC0_2.out);rintro e w9 ⟨v844,rfl,ho0,hb⟩;refine ⟨_,rfl,?_⟩;have n0_:=aK (Kd.qi2_ ho0 (qk_ (by repeat (first|(with_reducible first|exact HB.out|apply qb_|apply qa_|apply qc_|refine qh_ ?_ GE839.out|refine qh_ ?_ GE840.out)|exact HB.out))));have n1_:=aK (ql_ (g:=gb839) (o:=.cells #[.int .i64 a0_0,.int .i64 a0_1,.slice A0_2 l0_2.length c0_2] 38 (0,0)) (by (with_reducible repeat (first|refine qg_ ?_ _|refine qi_ ?_|refine qf_ ?_ _));exact BK839.out) hb);have n2_:=aK (ql_ (g:=gb840) (o:=.cells #[.int .i64 0,.int .i64 0,.slice none 0 0] 38 (0,0)) (by (with_reducible repeat (first|refine qg_ ?_ _|refine qi_ ?_|refine qf_ ?_ _));exact BK840.out) hb);have n3_:=aK (qe_ (by repeat (first|(with_reducible first|exact HB.out|apply qb_|apply qa_|apply qc_|refine qh_ ?_ GE839.out|refine qh_ ?_ GE840.out)|exact HB.out)) hb);clear BK839;clear BK840;clear HB;have HO845:=n0_;have BK839:=n1_;have BK840:=n2_;have HB:=n3_;clear n0_ n1_ n2_ n3_;(try clear hb);(try clear hb2);(try clear hk);(try clear hi);(try clear ho0))|((with_reducible refine qf1_ (N:=3) rfl ?_);refine qg1_ ?hg (N:=3) ?hd (cs:=#[.int .i64 0,.int .i64 0,.slice none 0 0]) (t:=38) ?hr ?_;(case hd=>rfl);(case hg=>rfl);(case hr=>first|(go_simp;done)|(go_simp;rfl));intro gb846 hg w10 hbox hb;have n0_:=aK (Kd.qe2_ (by (with_reducible repeat (first|apply Kd.qc1_|apply Kd.qm1_|apply Kd.R_drew));exact HO845.out) hb);have n1_:=aK (ql_ (g:=gb839) (o:=.cells #[.int .i64 a0_0,.int .i64 a0_1,.slice A0_2 l0_2.length c0_2] 38 (0,0)) (by (with_reducible repeat (first|refine qg_ ?_ _|refine qi_ ?_|refine qf_ ?_ _));exact BK839.out) hb);have n2_:=aK (ql_ (g:=gb840) (o:=.cells #[.int .i64 0,.int .i64 0,.slice none 0 0] 38 (0,0)) (by (with_reducible repeat (first|refine qg_ ?_ _|refine qi_ ?_|refine qf_ ?_ _));exact BK840.out) hb);have n3_:=aK (qe_ (by repeat (first|(with_reducible first|exact HB.out|apply qb_|apply qa_|apply qc_|refine qh_ ?_ GE839.out|refine qh_ ?_ GE840.out)|exact HB.out)) hb);have n4_:=aK (hbox);have n5_:=aK ((by rw [hg];exact (qk_ (by repeat (first|(with_reducible first|exact HB.out|apply qb_|apply qa_|apply qc_|refine qh_ ?_ GE839.out|refine qh_ ?_ GE840.out)|exact HB.out))):w.heap.size≤gb846));have n6_:=aK ((by rw [hg];exact (qk_ (by repeat (first|(with_reducible first|exact HB.out|apply qb_|apply qa_|apply qc_|refine qh_ ?_ GE839.out|refine qh_ ?_ GE840.out)|exact HB.out))):w.heap.size≤gb846));have n7_:=aK ((by rw [hg];exact Nat.ne_of_lt (blk_lt (g:=gb839) (o:=.cells #[.int .i64 a0_0,.int .i64 a0_1,.slice A0_2 l0_2.length c0_2] 38 (0,0)) (by (with_reducible repeat (first|refine qg_ ?_ _|refine qi_ ?_|refine qf_ ?_ _));exact BK839.out)):gb839 ≠ gb846));have n8_:=aK ((by rw [hg];exact Nat.ne_of_gt (blk_lt (g:=gb839) (o:=.cells #[.int .i64 a0_0,.int .i64 a0_1,.slice A0_2 l0_2.length c0_2] 38 (0,0)) (by (with_reducible repeat (first|refine qg_ ?_ _|refine qi_ ?_|refine qf_ ?_ _));exact BK839.out)):gb846 ≠ gb839));have n9_:=aK ((by rw [hg];exact Nat.ne_of_lt (blk_lt (g:=gb840) (o:=.cells #[.int .i64 0,.int .i64 0,.slice none 0 0] 38 (0,0)) (by (with_reducible repeat (first|refine qg_ ?_ _|refine qi_ ?_|refine qf_ ?_ _));exact BK840.out)):gb840 ≠ gb846));have n10_:=aK ((by rw [hg];exact Nat.ne_of_gt (blk_lt (g:=gb840) (o:=.cells #[.int .i64 0,.int .i64 0,.slice none 0 0] 38 (0,0)) (by (with_reducible repeat (first|refine qg_ ?_ _|refine qi_ ?_|refine qf_ ?_ _));exact BK840.out)):gb846 ≠ gb840));clear HO845;clear BK839;clear BK840;clear HB;have HO845:=n0_;have BK839:=n1_;have BK840:=n2_;have HB:=n3_;have BK846:=n4_;have GW846:=n5_;have GE846:=n6_;have NB839_846:=n7_;have NB846_839:=n8_;have NB840_846:=n9_;have NB846_840:=n10_;clear n0_ n1_ n2_ n3_ n4_ n5_ n6_ n7_ n8_ n9_ n10_;clear hb hbox hg;have hnb11:=NB846_839.out;have hnc11:=NB839_846.out;have hnb12:=NB846_840.out;have hnc12:=NB840_846.out;have hcz13_0:w10.cell? ⟨gb846,0,none⟩=some (.int .i64 0):=(qj_ BK846.out 0).trans rfl;have hcz13_1:w10.cell? ⟨gb846,1,none⟩=some (.int .i64 0):=(qj_ BK846.out 1).trans rfl;have hcz13_2:w10.cell? ⟨gb846,2,none⟩=some (.slice none 0 0):=(qj_ BK846.out 2).trans rfl;have hfz13_0:=qd_ BK846.out 0;have hfz13_1:=qd_ BK846.out 1;have hfz13_2:=qd_ BK846.out 2;obtain ⟨Ao14,co14,eo14⟩:=Kd.qa2_ HO845.out;subst eo14))
  have n0_:Aside0 (Kd.R k79 79 (((w10.setCell ⟨gb846,0,none⟩ (.int .i64 t841)).setCell ⟨gb846,1,none⟩ (.int .i64 t842)).setCell ⟨gb846,2,none⟩ (.slice Ao14 t843.length co14)) w.heap.size (fun _=>True) (.slice Ao14 t843.length co14) t843):=⟨by (with_reducible repeat (first|apply Kd.qc1_|apply Kd.qm1_|apply Kd.R_drew));exact Kd.R_mono (Kd.R_far (p:=⟨gb846,2,none⟩) (Kd.R_far (p:=⟨gb846,1,none⟩) (Kd.R_far (p:=⟨gb846,0,none⟩) (Kd.R_types HO845.out BK846.out (by decide)) (fun _ hk=>hk.2) (.int .i64 t841)) (fun _ hk=>hk.2) (.int .i64 t842)) (fun _ hk=>hk.2) (.slice Ao14 t843.length co14)) (fun _ hk=>trivial)⟩
  have n1_:Aside0 ((((w10.setCell ⟨gb846,0,none⟩ (.int .i64 t841)).setCell ⟨gb846,1,none⟩ (.int .i64 t842)).setCell ⟨gb846,2,none⟩ (.slice Ao14 t843.length co14)).heap[gb839]?=some (.cells #[.int .i64 a0_0,.int .i64 a0_1,.slice A0_2 l0_2.length c0_2] 38 (0,0))):=⟨by (with_reducible repeat (first|refine qg_ ?_ _|refine qi_ ?_|refine qf_ ?_ _));refine qb2_ ?_ NB839_846.out _;(with_reducible repeat (first|refine qg_ ?_ _|refine qi_ ?_|refine qf_ ?_ _));refine qb2_ ?_ NB839_846.out _;(with_reducible repeat (first|refine qg_ ?_ _|refine qi_ ?_|refine qf_ ?_ _));refine qb2_ ?_ NB839_846.out _;(with_reducible repeat (first|refine qg_ ?_ _|refine qi_ ?_|refine qf_ ?_ _));exact BK839.out⟩
  have n2_:Aside0 ((((w10.setCell ⟨gb846,0,none⟩ (.int .i64 t841)).setCell ⟨gb846,1,none⟩ (.int .i64 t842)).setCell ⟨gb846,2,none⟩ (.slice Ao14 t843.length co14)).heap[gb840]?=some (.cells #[.int .i64 0,.int .i64 0,.slice none 0 0] 38 (0,0))):=⟨by (with_reducible repeat (first|refine qg_ ?_ _|refine qi_ ?_|refine qf_ ?_ _));refine qb2_ ?_ NB840_846.out _;(with_reducible repeat (first|refine qg_ ?_ _|refine qi_ ?_|refine qf_ ?_ _));refine qb2_ ?_ NB840_846.out _;(with_reducible repeat (first|refine qg_ ?_ _|refine qi_ ?_|refine qf_ ?_ _));refine qb2_ ?_ NB840_846.out _;(with_reducible repeat (first|refine qg_ ?_ _|refine qi_ ?_|refine qf_ ?_ _));exact BK840.out⟩
  have n3_:Aside0 ((((w10.setCell ⟨gb846,0,none⟩ (.int .i64 t841)).setCell ⟨gb846,1,none⟩ (.int .i64 t842)).setCell ⟨gb846,2,none⟩ (.slice Ao14 t843.length co14)).heap[gb846]?=some (.cells #[.int .i64 t841,.int .i64 t842,.slice Ao14 t843.length co14] 38 (0,0))):=⟨by (with_reducible repeat (first|refine qg_ ?_ _|refine qi_ ?_|refine qf_ ?_ _));refine qz1_ (cs:=#[.int .i64 t841,.int .i64 t842,.slice none 0 0]) ?_ 2 _ rfl;(with_reducible repeat (first|refine qg_ ?_ _|refine qi_ ?_|refine qf_ ?_ _));refine qz1_ (cs:=#[.int .i64 t841,.int .i64 0,.slice none 0 0]) ?_ 1 _ rfl;(with_reducible repeat (first|refine qg_ ?_ _|refine qi_ ?_|refine qf_ ?_ _));refine qz1_ (cs:=#[.int .i64 0,.int .i64 0,.slice none 0 0]) ?_ 0 _ rfl;(with_reducible repeat (first|refine qg_ ?_ _|refine qi_ ?_|refine qf_ ?_ _));exact BK846.out⟩
  have n4_:Aside0 (Below w.heap.size w (((w10.setCell ⟨gb846,0,none⟩ (.int .i64 t841)).setCell ⟨gb846,1,none⟩ (.int .i64 t842)).setCell ⟨gb846,2,none⟩ (.slice Ao14 t843.length co14))):=⟨by repeat (first|(with_reducible first|exact HB.out|apply qb_|apply qa_|apply qc_|refine qh_ ?_ GE839.out|refine qh_ ?_ GE840.out|refine qh_ ?_ GE846.out)|exact HB.out)⟩
  (try clear HO845)
  (try clear BK839)
  (try clear BK840)
  (try clear BK846)
  (try clear HB)
  generalize (((w10.setCell ⟨gb846,0,none⟩ (.int .i64 t841)).setCell ⟨gb846,1,none⟩ (.int .i64 t842)).setCell ⟨gb846,2,none⟩ (.slice Ao14 t843.length co14))=w15 at n0_ n1_ n2_ n3_ n4_ ⊢
  have HO845:=n0_
  have BK839:=n1_
  have BK840:=n2_
  have BK846:=n3_
  have HB:=n4_
  clear n0_ n1_ n2_ n3_ n4_
  have n0_:=aK (Kd.R_drew HO845.out)
  have n1_:=aK (qi_ BK839.out)
  have n2_:=aK (qi_ BK840.out)
  have n3_:=aK (qi_ BK846.out)
  have n4_:=aK (qc_ HB.out)
  clear HO845
  clear BK839
  clear BK840
  clear BK846
  clear HB
  have HO845:=n0_
  have BK839:=n1_
  have BK840:=n2_
  have BK846:=n3_
  have HB:=n4_
  clear n0_ n1_ n2_ n3_ n4_
  refine start_ (n:=8) (S:=fun w'=>w'.cell? ⟨gb846,0,none⟩=some (.int .i64 t841)∧w'.cell? ⟨gb846,1,none⟩=some (.int .i64 t842)∧w'.cell? ⟨gb846,2,none⟩=some (.slice Ao14 t843.length co14)) (ds:=[7]) #[fF,fF,fF,fF,fF,fF,fF,fF] (by kernel_rfl) rfl rfl ⟨(qj_ BK846.out 0).trans rfl,(qj_ BK846.out 1).trans rfl,(qj_ BK846.out 2).trans rfl⟩ (fun hHeld=>?_);refine with_tabW qp2_.tab2 qp2_.bits2 (fun HT_ HW_=>?_)
  generalize w15.drew=w16 at HO845 BK839 BK840 BK846 HB hHeld ⊢
  refine pure_ (i:=0) (N:=some 6) (v:=?_) (a':=?_) #[tT,fF,fF,fF,fF,fF,fF,fF] rfl rfl (any_of HT_.out (by kernel_rfl)) (fun _ _ _ h=>h) (Or.inl ⟨by rfl,?_⟩) ?_ ?_
  rotate_left
  ·intro w'
   go_simp
   with_reducible rfl
  rotate_left
  ·simp only [Act.put,List.setIfInBounds_toArray,List.set_cons_zero,List.set_cons_succ,i64_w,i32_w]
   rfl
  refine take_ (i:=1) (N:=some 7) (v:=?_) (a':=?_) #[tT,tT,fF,fF,fF,fF,fF,fF] rfl rfl (take_ofW HT_.out HW_.out (by kernel_rfl)) (fun _ _ _ h=>h) (Or.inl ⟨by rfl,?_⟩) hHeld ?_ ?_
  rotate_left
  ·rintro w' ⟨s0,s1,s2⟩
   go_simp
   with_reducible rfl
  rotate_left
  ·simp only [Act.put,List.setIfInBounds_toArray,List.set_cons_zero,List.set_cons_succ,i64_w,i32_w]
   rfl
  refine one_ (i:=2) (N:=some 8) #[tT,tT,tT,fF,fF,fF,fF,fF] rfl rfl (one_of HT_.out (by kernel_rfl)) (by decide) (fun K hK=>?_)
  refine goes_ Try.func124 (by kernel_rfl) rfl #[.int .i64 1] (by rfl) rfl rfl (by (try simp only [List.map_toArray,List.map_cons,List.map_nil]);first|done|rfl|(simp only [List.length_drop,List.length_take];rfl)) ?_
  with_reducible refine (qt2_.calls 1 t847 t848 _ A3.out).mono ?_
  rintro e w17 ⟨rfl,hb⟩
  refine ⟨_,rfl,?_⟩
  have n0_:=aK (Kd.qe2_ (by (with_reducible repeat (first|apply Kd.qc1_|apply Kd.qm1_|apply Kd.R_drew));exact HO845.out) hb)
  have n1_:=aK (ql_ (g:=gb839) (o:=.cells #[.int .i64 a0_0,.int .i64 a0_1,.slice A0_2 l0_2.length c0_2] 38 (0,0)) (by (with_reducible repeat (first|refine qg_ ?_ _|refine qi_ ?_|refine qf_ ?_ _));exact BK839.out) hb)
  have n2_:=aK (ql_ (g:=gb840) (o:=.cells #[.int .i64 0,.int .i64 0,.slice none 0 0] 38 (0,0)) (by (with_reducible repeat (first|refine qg_ ?_ _|refine qi_ ?_|refine qf_ ?_ _));exact BK840.out) hb)
  have n3_:=aK (ql_ (g:=gb846) (o:=.cells #[.int .i64 t841,.int .i64 t842,.slice Ao14 t843.length co14] 38 (0,0)) (by (with_reducible repeat (first|refine qg_ ?_ _|refine qi_ ?_|refine qf_ ?_ _));exact BK846.out) hb)
  have n4_:=aK (qe_ (by repeat (first|(with_reducible first|exact HB.out|apply qb_|apply qa_|apply qc_|refine qh_ ?_ GE839.out|refine qh_ ?_ GE840.out|refine qh_ ?_ GE846.out)|exact HB.out)) hb)
  clear HO845
  clear BK839
  clear BK840
  clear BK846
  clear HB
  have HO845:=n0_
  have BK839:=n1_
  have BK840:=n2_
  have BK846:=n3_
  have HB:=n4_
  clear n0_ n1_ n2_ n3_ n4_
  (try clear hb)
  (try clear hb2)
  (try clear hk)
  (try clear hi)
  refine hK.out _ _ ⟨(qj_ BK846.out 0).trans rfl,(qj_ BK846.out 1).trans rfl,(qj_ BK846.out 2).trans rfl⟩ (fun hHeld=>?_)
  clear hK K
  refine norm_ (a':=?_) ?_ ?_
  rotate_left
  ·show Act.put _ (some 8) _=_
   simp only [Act.put,List.setIfInBounds_toArray,List.set_cons_zero,List.set_cons_succ,i64_w,i32_w]
   rfl
  refine pure_ (i:=3) (N:=some 9) (v:=?_) (a':=?_) #[tT,tT,tT,tT,fF,fF,fF,fF] rfl rfl (any_of HT_.out (by kernel_rfl)) (fun _ _ _ h=>h) (Or.inl ⟨by rfl,?_⟩) ?_ ?_
  rotate_left
  ·intro w'
   go_simp
   with_reducible rfl
  rotate_left
  ·simp only [Act.put,List.setIfInBounds_toArray,List.set_cons_zero,List.set_cons_succ,i64_w,i32_w]
   rfl
  refine one_ (i:=4) (N:=some 10) #[tT,tT,tT,tT,tT,fF,fF,fF] rfl rfl (one_of HT_.out (by kernel_rfl)) (by decide) (fun K hK=>?_)
  refine value_ (w1:=?_) (v:=?_) (by rfl) rfl ?_ ?_
  rotate_left 2
  ·go_simp
   constructor
   ·rfl
   ·rfl
  refine hK.out _ _ ⟨(qj_ (qf_ BK846.out _) 0).trans rfl,(qj_ (qf_ BK846.out _) 1).trans rfl,(qj_ (qf_ BK846.out _) 2).trans rfl⟩ (fun hHeld=>?_)
  clear hK K
  refine norm_ (a':=?_) ?_ ?_
  rotate_left
  ·show Act.put _ (some 10) _=_
   simp only [Act.put,List.setIfInBounds_toArray,List.set_cons_zero,List.set_cons_succ,i64_w,i32_w]
   rfl
  refine one_ (i:=5) (N:=some 11) #[tT,tT,tT,tT,tT,tT,fF,fF] rfl rfl (one_of HT_.out (by kernel_rfl)) (by decide) (fun K hK=>?_)
  refine Kd.qe3_ k79 (w0:=w) w.heap.size (by rfl) (.tmp 7) (.tmp 10) 24 79 (.agg #[(.string ⟨#[]⟩),(.int .i64 0),(.int .i64 0)]) 32 rfl Try.underlying24 info79 rfl (by decide) (by omega) (.slice Ao14 t843.length co14) t843 (⟨(⟨#[]⟩:ByteArray),(⟨t847,t848⟩:S77)⟩:S79) [.string (⟨#[]⟩:ByteArray),.int .i64 t847,.int .i64 t848] (fun _=>True) (fun _=>False) rfl rfl ?aP (fun _ hk=>hk.elim) ?aF ?aO ?aB ?aS ?aL ?_
  (case aP=>exact k79_mkM _ _ _ (⟨(⟨#[]⟩:ByteArray),(⟨t847,t848⟩:S77)⟩:S79))
  (case aB=>exact (by repeat (first|(with_reducible first|exact HB.out|apply qb_|apply qa_|apply qc_|refine qh_ ?_ GE839.out|refine qh_ ?_ GE840.out|refine qh_ ?_ GE846.out)|exact HB.out)))
  (case aF=>exact (fun _ _=>trivial))
  (case aO=>exact (by (with_reducible repeat (first|apply Kd.qc1_|apply Kd.qm1_|apply Kd.R_drew));exact HO845.out))
  (case aS=>exact (qk_ (by repeat (first|(with_reducible first|exact HB.out|apply qb_|apply qa_|apply qc_|refine qh_ ?_ GE839.out|refine qh_ ?_ GE840.out|refine qh_ ?_ GE846.out)|exact HB.out))))
  (case aL=>have:=LMc4.out;omega)
  intro v850 w18 ho hb hg hat
  rw [← Ny849.out] at ho
  have n0_:=aK (qg3_ (g:=gb839) (o:=.cells #[.int .i64 a0_0,.int .i64 a0_1,.slice A0_2 l0_2.length c0_2] 38 (0,0)) (by (with_reducible repeat (first|refine qg_ ?_ _|refine qi_ ?_|refine qf_ ?_ _));exact BK839.out) hg (Kd.R_ne HO845.out BK839.out (by decide)))
  have n1_:=aK (qg3_ (g:=gb840) (o:=.cells #[.int .i64 0,.int .i64 0,.slice none 0 0] 38 (0,0)) (by (with_reducible repeat (first|refine qg_ ?_ _|refine qi_ ?_|refine qf_ ?_ _));exact BK840.out) hg (Kd.R_ne HO845.out BK840.out (by decide)))
  have n2_:=aK (qg3_ (g:=gb846) (o:=.cells #[.int .i64 t841,.int .i64 t842,.slice Ao14 t843.length co14] 38 (0,0)) (by (with_reducible repeat (first|refine qg_ ?_ _|refine qi_ ?_|refine qf_ ?_ _));exact BK846.out) hg (Kd.R_ne HO845.out BK846.out (by decide)))
  have n3_:=aK (hb)
  have n4_:=aK (ho)
  clear BK839
  clear BK840
  clear BK846
  clear HB
  clear HO845
  have BK839:=n0_
  have BK840:=n1_
  have BK846:=n2_
  have HB:=n3_
  have HO851:=n4_
  clear n0_ n1_ n2_ n3_ n4_
  clear ho hb hg hat
  obtain ⟨Ao19,co19,eo19⟩:=Kd.qa2_ HO851.out
  (first|subst eo19|(injection eo19 with f1_ f2_ f3_;have f4_:=f1_.symm;have f5_:=f3_.symm;clear f1_ f2_ f3_;subst f4_;subst f5_))
  refine hK.out _ _ ⟨(qj_ BK846.out 0).trans rfl,(qj_ BK846.out 1).trans rfl,(qj_ BK846.out 2).trans rfl⟩ (fun hHeld=>?_)
  clear hK K
  refine norm_ (a':=?_) ?_ ?_
  rotate_left
  ·show Act.put _ (some 11) _=_
   simp only [Act.put,List.setIfInBounds_toArray,List.set_cons_zero,List.set_cons_succ,i64_w,i32_w]
   rfl
  refine pure_ (i:=6) (N:=some 12) (v:=?_) (a':=?_) #[tT,tT,tT,tT,tT,tT,tT,fF] rfl rfl (any_of HT_.out (by kernel_rfl)) (fun _ _ _ h=>h) (Or.inl ⟨by rfl,?_⟩) ?_ ?_
  rotate_left
  ·intro w'
   go_simp
   with_reducible rfl
  rotate_left
  ·simp only [Act.put,List.setIfInBounds_toArray,List.set_cons_zero,List.set_cons_succ,i64_w,i32_w]
   rfl
  refine last_ (i:=7) (N:=none) #[tT,tT,tT,tT,tT,tT,tT,tT] rfl rfl (one_of HT_.out (by kernel_rfl)) (by decide) (fun K hK=>?_)
  have hs20:w18.cell? ⟨gb846,2,none⟩=some (.slice Ao14 t843.length co14):=(qj_ BK846.out 2).trans rfl
  have hfs20:=qd_ BK846.out 2
  have hns20_0:=NB839_846.out
  have hns20_1:=NB840_846.out
  have hms20_0:=NB846_839.out
  have hms20_1:=NB846_840.out
  refine skip_ (w1:=?_) (by rfl) rfl ?_ ?_
  rotate_left
  ·go_simp
   rfl
  refine hK.out _ _ ?_
  clear hK K
  refine done_ (done_of HT_.out (by kernel_rfl)) ?_
  have hcz21_0:w18.cell? ⟨gb846,0,none⟩=some (.int .i64 t841):=(qj_ BK846.out 0).trans rfl
  have hcz21_1:w18.cell? ⟨gb846,1,none⟩=some (.int .i64 t842):=(qj_ BK846.out 1).trans rfl
  have hcz21_2:w18.cell? ⟨gb846,2,none⟩=some (.slice Ao14 t843.length co14):=(qj_ BK846.out 2).trans rfl
  have hfz21_0:=qd_ BK846.out 0
  have hfz21_1:=qd_ BK846.out 1
  have hfz21_2:=qd_ BK846.out 2
  have hcz22_0:w18.cell? ⟨gb840,0,none⟩=some (.int .i64 0):=(qj_ BK840.out 0).trans rfl
  have hcz22_1:w18.cell? ⟨gb840,1,none⟩=some (.int .i64 0):=(qj_ BK840.out 1).trans rfl
  have hcz22_2:w18.cell? ⟨gb840,2,none⟩=some (.slice none 0 0):=(qj_ BK840.out 2).trans rfl
  have hfz22_0:=qd_ BK840.out 0
  have hfz22_1:=qd_ BK840.out 1
  have hfz22_2:=qd_ BK840.out 2
  try go_wp2
  refine bodyPost_ret (results_cell_row rfl _ _ gb840 38 #[.int .i64 t841,.int .i64 t842,.slice Ao19 y849.length co19] (0,0) _ rfl (by (with_reducible repeat (first|refine qg_ ?_ _|refine qi_ ?_|refine qf_ ?_ _));refine qz1_ (cs:=#[.int .i64 t841,.int .i64 t842,.slice none 0 0]) ?_ 2 _ rfl;(with_reducible repeat (first|refine qg_ ?_ _|refine qi_ ?_|refine qf_ ?_ _));refine qz1_ (cs:=#[.int .i64 t841,.int .i64 0,.slice none 0 0]) ?_ 1 _ rfl;(with_reducible repeat (first|refine qg_ ?_ _|refine qi_ ?_|refine qf_ ?_ _));refine qz1_ (cs:=#[.int .i64 0,.int .i64 0,.slice none 0 0]) ?_ 0 _ rfl;(with_reducible repeat (first|refine qg_ ?_ _|refine qi_ ?_|refine qf_ ?_ _));refine qb2_ ?_ NB840_846.out _;(with_reducible repeat (first|refine qg_ ?_ _|refine qi_ ?_|refine qf_ ?_ _));exact BK840.out) Try.underlying38 rfl (by kernel_rfl)) rfl ?_
  exact ⟨_,by first|rfl|(simp [qn_,qm_] <;> rfl)|(simp [*,qn_,qm_] <;> rfl),by (with_reducible repeat (first|apply Kd.qc1_|apply Kd.qm1_|apply Kd.R_drew));exact Kd.R_mono (Kd.R_far (p:=⟨gb840,2,none⟩) (Kd.R_far (p:=⟨gb840,1,none⟩) (Kd.R_far (p:=⟨gb840,0,none⟩) (Kd.R_far (p:=⟨gb846,2,none⟩) (Kd.R_types (Kd.R_types HO851.out BK846.out (by decide)) BK840.out (by decide)) (fun _ hk=>hk.1.2) (.slice Ao19 y849.length co19)) (fun _ hk=>hk.2) (.int .i64 t841)) (fun _ hk=>hk.2) (.int .i64 t842)) (fun _ hk=>hk.2) (.slice Ao19 y849.length co19)) (fun _ hk=>trivial),by repeat (first|(with_reducible first|exact HB.out|apply qb_|apply qa_|apply qc_|refine qh_ ?_ GE839.out|refine qh_ ?_ GE840.out|refine qh_ ?_ GE846.out)|exact HB.out)⟩
 ·rw [if_neg c4] at H
  exact absurd H (by simp)
end Go.Proofs.Ytaiefdhenikiiaa.Base
