/- Texts that the proof of FnExactDynkinMap needs, part 6. No condition. -/
import Derived.Test.YtaiefdhenikiiaaMFnExactDynkinMap5
import Derived.Handy
namespace Go.Proofs.Ytaiefdhenikiiaa.Base
open Go.RowKit Go.Proofs.YtaiefdhenikiiaaW.PrintWords Go.Proofs.YtaiefdhenikiiaaW.PrintLast Go.Proofs.YtaiefdhenikiiaaW.PrintMore
set_option linter.unusedVariables false
set_option linter.unusedSimpArgs false
/-- A table. -/
structure Tb where
  d:Nat
  n:Nat
  vs:List S77
  bad:Bool
def cellsF (vs:List S77):List Value:=vs.flatMap fun x=>[.int .i64 x.f0,.int .i64 x.f1]
theorem cellsF_length (vs:List S77):(cellsF vs).length=2 * vs.length:=by
  induction vs with
  | nil=>rfl
  | cons x vs ih=>simp only [cellsF,List.flatMap_cons,List.length_append,List.length_cons,List.length_nil] at ih ⊢;omega
theorem cellsF_0 (vs:List S77):∀ (k:Nat) (hk:k < vs.length),(cellsF vs)[2 * k]?=some (.int .i64 (vs[k].f0)):=by
  induction vs with
  | nil=>intro k hk;simp at hk
  | cons x vs ih =>
    intro k hk
    cases k with
    | zero=>rfl
    | succ k=>have:=ih k (by simpa using hk);simpa [cellsF,Nat.mul_succ] using this
theorem cellsF_1 (vs:List S77):∀ (k:Nat) (hk:k < vs.length),(cellsF vs)[2 * k+1]?=some (.int .i64 (vs[k].f1)):=by
  induction vs with
  | nil=>intro k hk;simp at hk
  | cons x vs ih =>
    intro k hk
    cases k with
    | zero=>rfl
    | succ k=>have:=ih k (by simpa using hk);simpa [cellsF,Nat.mul_succ] using this
theorem cellsF_set (vs:List S77) (x:S77):∀ (k:Nat),k < vs.length→cellsF (vs.set k x)=((cellsF vs).set (2 * k) (.int .i64 x.f0)).set (2 * k+1) (.int .i64 x.f1):=by
  induction vs with
  | nil=>intro k hk;simp at hk
  | cons y vs ih =>
    intro k hk
    cases k with
    | zero=>rfl
    | succ k =>
      have:=ih k (by simpa using hk)
      simp only [cellsF,List.set_cons_succ,List.flatMap_cons,List.cons_append,List.nil_append,Nat.mul_succ] at this ⊢
      rw [this]
/-- The table t in the blocks g (its fields) and h (its values). -/
structure TabAt (W:World) (g h:Nat) (t:Tb):Prop where
  st:W.heap[g]?=some (.cells #[.int .i64 (t.d:Int),.int .i64 (t.n:Int),.slice (some ⟨h,0,none⟩) t.vs.length t.vs.length,.bool t.bad] 126 (0,0))
  vl:W.heap[h]?=some (.cells (cellsF t.vs).toArray 77 (0,0))
section
variable {W W' w w':World} {g h:Nat} {t:Tb}
theorem TabAt.ne (H:TabAt W g h t):g ≠ h:=blk_ne H.st H.vl (by decide)
theorem TabAt.ltg (H:TabAt W g h t):g < W.heap.size:=blk_lt H.st
theorem TabAt.lth (H:TabAt W g h t):h < W.heap.size:=blk_lt H.vl
theorem TabAt.c0 (H:TabAt W g h t):W.cell? ⟨g,0,none⟩=some (.int .i64 (t.d:Int)):=by rw [qg_ H.st];rfl
theorem TabAt.c1 (H:TabAt W g h t):W.cell? ⟨g,1,none⟩=some (.int .i64 (t.n:Int)):=by rw [qg_ H.st];rfl
theorem TabAt.c2 (H:TabAt W g h t):W.cell? ⟨g,2,none⟩=some (.slice (some ⟨h,0,none⟩) t.vs.length t.vs.length):=by rw [qg_ H.st];rfl
theorem TabAt.c3 (H:TabAt W g h t):W.cell? ⟨g,3,none⟩=some (.bool t.bad):=by rw [qg_ H.st];rfl
theorem TabAt.v0 (H:TabAt W g h t) (k:Nat) (hk:k < t.vs.length):W.cell? ⟨h,k * 2,none⟩=some (.int .i64 (t.vs[k].f0)):=by
  rw [qg_ H.vl,List.getElem?_toArray,Nat.mul_comm];exact cellsF_0 _ k hk
theorem TabAt.v1 (H:TabAt W g h t) (k:Nat) (hk:k < t.vs.length):W.cell? ⟨h,k * 2+1,none⟩=some (.int .i64 (t.vs[k].f1)):=by
  rw [qg_ H.vl,List.getElem?_toArray,Nat.mul_comm];exact cellsF_1 _ k hk
theorem TabAt.below (H:TabAt W g h t) (hb:Below W.heap.size W W'):TabAt W' g h t:=⟨(hb.block g H.ltg).trans H.st,(hb.block h H.lth).trans H.vl⟩
/-- What was there is as_ it was,but for the blocks of S. -/
structure Mut (w w':World) (S:Nat→Prop):Prop where
  os:w'.os=w.os
  tape:w'.tape=w.tape
  output:w'.output=w.output
  size:w.heap.size≤w'.heap.size
  block:∀ k,k < w.heap.size→¬ S k→w'.heap[k]?=w.heap[k]?
theorem Mut.refl (w:World) (S:Nat→Prop):Mut w w S:=⟨rfl,rfl,rfl,Nat.le_refl _,fun _ _ _=>rfl⟩
theorem Mut.of {S:Nat→Prop} (h:Below w.heap.size w w'):Mut w w' S:=⟨h.os,h.tape,h.output,h.size,fun k hk _=>h.block k hk⟩
theorem Mut.then_ {w'':World} {S T:Nat→Prop} (h:Mut w w' S) (k:Mut w' w'' T) (hT:∀ i,i < w.heap.size→T i→S i):Mut w w'' S :=
  ⟨k.os.trans h.os,k.tape.trans h.tape,k.output.trans h.output,Nat.le_trans h.size k.size,fun i hi hn=>(k.block i (Nat.lt_of_lt_of_le hi h.size) (fun hT'=>hn (hT i hi hT'))).trans (h.block i hi hn)⟩
theorem Mut.below {S:Nat→Prop} {B:Nat} {w0:World} (h:Mut w w' S) (hb:Below B w0 w) (hB:B≤w.heap.size) (hS:∀ i,i < w.heap.size→S i→B≤i):Below B w0 w' :=
  ⟨h.os.trans hb.os,h.tape.trans hb.tape,h.output.trans hb.output,Nat.le_trans hb.size h.size,fun k hk=>(h.block k (Nat.lt_of_lt_of_le hk hB) (fun hs=>absurd (hS k (Nat.lt_of_lt_of_le hk hB) hs) (by omega))).trans (hb.block k hk)⟩
theorem Mut.cell {S:Nat→Prop} (h:Mut w w' S) {a:Addr} {v:Value} (hc:w.cell? a=some v) (hS:¬ S a.block):w'.cell? a=some v:=by
  have:=h.block a.block (World.block_lt_of_cell? w a hc) hS
  unfold World.cell? at hc ⊢
  rw [this];exact hc
theorem Mut.tab {S:Nat→Prop} (m:Mut w w' S) (H:TabAt w g h t) (hg:¬ S g) (hh:¬ S h):TabAt w' g h t:=⟨(m.block g H.ltg hg).trans H.st,(m.block h H.lth hh).trans H.vl⟩
end
end Go.Proofs.Ytaiefdhenikiiaa.Base
namespace Go.Proofs.Ytaiefdhenikiiaa.Base
open Go.RowKit Go.Proofs.YtaiefdhenikiiaaW.PrintWords Go.Proofs.YtaiefdhenikiiaaW.PrintLast Go.Proofs.YtaiefdhenikiiaaW.PrintMore
set_option linter.unusedVariables false
set_option linter.unusedSimpArgs false
theorem w64 {x:Int} (h0:-9223372036854775808≤x) (h1:x≤9223372036854775807):wrap64 x=x:=by unfold wrap64;omega
/-- Is it a fraction? -/
def okF (a:S77):Prop:=1≤a.f1∧a.f1≤1000000000∧-1000000000≤a.f0∧a.f0≤1000000000∧Int.gcd a.f0 a.f1=1
instance (a:S77):Decidable (okF a):=by unfold okF;exact inferInstance
theorem S77.ext' {a b:S77} (h0:a.f0=b.f0) (h1:a.f1=b.f1):a=b:=by cases a;cases b;simp_all
/-- The divisor by which num / den is reduced. -/
def byM (num den:Int):Int:=if den < 0 then -(Int.gcd num den:Int) else (Int.gcd num den:Int)
/-- num / den in lowest terms,and whether it fits. -/
def redM (num den:Int):S77 × Bool:=(⟨num / byM num den,den / byM num den⟩,decide (okF ⟨num / byM num den,den / byM num den⟩))
def zeroF:S77:=⟨0,1⟩
def plusM (a b:S77):S77 × Bool:=redM (a.f0 * b.f1+b.f0 * a.f1) (a.f1 * b.f1)
def timesM (a b:S77):S77 × Bool:=redM (a.f0 * b.f0) (a.f1 * b.f1)
theorem red_okF {num den:Int} (h:(redM num den).2=true):okF (redM num den).1:=of_decide_eq_true h
theorem common_loop:∀ (b a:Nat),Ev (fun k=>qf1_.l0 k (a:Int) (b:Int)) ((Nat.gcd a b:Nat):Int):=by
  intro b
  induction b using Nat.strongRecOn with
  | _ b ih =>
    intro a
    by_cases hb:b=0
    · subst hb
      refine Ev.step (f:=fun _=>some ((Nat.gcd a 0:Nat):Int)) (fun k=>?_) (Ev.now _)
      simp only [qf1_.l0]
      rw [if_pos (by omega)];simp
    · have h:=ih (a % b) (Nat.mod_lt _ (by omega)) b
      rw [Nat.gcd_comm,← Nat.gcd_rec b a,Nat.gcd_comm] at h
      refine Ev.step (fun k=>?_) h
      simp only [qf1_.l0]
      rw [if_neg (by omega),← Int.ofNat_tmod]
theorem size_is {a:Int} (h:a.natAbs≤9223372036854775807):qx2_.f a=some (a.natAbs:Int):=by
  unfold qx2_.f mx
  rw [w64 (by omega) (by omega)]
  split <;> congr 1 <;> omega
theorem common_is {a b:Int} (ha:a.natAbs≤9223372036854775807) (hb:b.natAbs≤9223372036854775807):Ev (fun k=>qf1_.f k a b) (Int.gcd a b:Int):=by
  refine Ev.congr (fun k=>?_) (common_loop b.natAbs a.natAbs)
  unfold qf1_.f
  rw [size_is ha,size_is hb];rfl
theorem gcd_le {a b:Int} (hb:b ≠ 0):(Int.gcd a b:Int)≤b.natAbs∧1≤(Int.gcd a b:Int):=by
  have h1:Int.gcd a b ∣ b.natAbs:=Nat.gcd_dvd_right _ _
  have h2:=Nat.le_of_dvd (by omega) h1
  have h3:0 < Int.gcd a b:=Nat.pos_of_dvd_of_pos h1 (by omega)
  omega
theorem by_ne {a b:Int} (hb:b ≠ 0):byM a b ≠ 0:=by
  have:=gcd_le (a:=a) hb
  unfold byM;split <;> omega
theorem by_dvd (a b:Int):byM a b ∣ a∧byM a b ∣ b:=by
  unfold byM
  split
  · exact ⟨(Int.neg_dvd).2 (Int.gcd_dvd_left _ _),(Int.neg_dvd).2 (Int.gcd_dvd_right _ _)⟩
  · exact ⟨Int.gcd_dvd_left _ _,Int.gcd_dvd_right _ _⟩
theorem div_small (a b:Int):(a / b).natAbs≤a.natAbs:=Int.natAbs_ediv_le_natAbs a b
theorem isfrac_is (a b:Int) (ha:a.natAbs≤9223372036854775807) (hb:b.natAbs≤9223372036854775807):Ev (fun k=>qe1_.f k a b) (decide (okF ⟨a,b⟩)):=by
  have hs:∀ {c:Bool} {f:Nat→Option Bool},(∀ k,f k=some c)→Ev f c:=fun h=>⟨0,fun k _=>h k⟩
  by_cases c1:1≤b∧b≤1000000000
  · by_cases c2:-1000000000≤a∧a≤1000000000
    · have h1:=Ev.bind (common_is ha hb) (f:=fun _ t=>some (t == 1)) (r:=((Int.gcd a b:Int) == 1)) (Ev.now _)
      have e:decide (okF ⟨a,b⟩)=((Int.gcd a b:Int) == 1):=by
        simp only [okF,c1.1,c1.2,c2.1,c2.2,true_and];rw [Bool.eq_iff_iff,decide_eq_true_iff,beq_iff_eq];omega
      rw [e]
      refine Ev.congr (fun k=>?_) h1
      unfold qe1_.f qb3_.f qx1_.f
      rw [w64 (x:=-1000000000) (by omega) (by omega)]
      rw [if_pos (by omega)]
      simp only [Option.bind_some]
      rw [if_pos (by simpa using c1.2),if_pos (by omega)]
      simp only [Option.bind_some]
      rw [if_pos (by simpa using c2.2)]
    · have e:decide (okF ⟨a,b⟩)=false:=by
        rw [decide_eq_false_iff_not];simp only [okF];omega
      rw [e]
      refine hs fun k=>?_
      unfold qe1_.f qb3_.f qx1_.f
      rw [w64 (x:=-1000000000) (by omega) (by omega)]
      rw [if_pos (by omega)]
      simp only [Option.bind_some]
      rw [if_pos (by simpa using c1.2)]
      by_cases c3:a ≥ -1000000000
      · rw [if_pos c3]
        simp only [Option.bind_some]
        rw [if_neg (by simp;omega)]
      · rw [if_neg c3];simp
  · have e:decide (okF ⟨a,b⟩)=false:=by
      rw [decide_eq_false_iff_not];simp only [okF];omega
    rw [e]
    refine hs fun k=>?_
    unfold qe1_.f qx1_.f
    by_cases c3:b ≥ 1
    · rw [if_pos c3]
      simp only [Option.bind_some]
      rw [if_neg (by simp;omega)]
    · rw [if_neg c3];simp
theorem red_is {num den:Int} (hd:den ≠ 0) (h1:num.natAbs≤4000000000000000000) (h2:den.natAbs≤4000000000000000000):Ev (fun k=>qq1_.f k num den) ((redM num den).1.f0,(redM num den).1.f1,(redM num den).2):=by
  have hg:=gcd_le (a:=num) hd
  have b1:=div_small num (byM num den)
  have b2:=div_small den (byM num den)
  obtain ⟨q1,q2⟩:=by_dvd num den
  have e1:wrap64 (Int.tdiv num (byM num den))=num / byM num den:=by rw [Int.tdiv_eq_ediv_of_dvd q1,w64 (by omega) (by omega)]
  have e2:wrap64 (Int.tdiv den (byM num den))=den / byM num den:=by rw [Int.tdiv_eq_ediv_of_dvd q2,w64 (by omega) (by omega)]
  have hi:=isfrac_is (num / byM num den) (den / byM num den) (by omega) (by omega)
  refine Ev.congr (fun k=>?_) (Ev.bind (common_is (a:=num) (b:=den) (by omega) (by omega)) (f:=fun k _=>(qe1_.f k (num / byM num den) (den / byM num den)).bind fun t=>some (num / byM num den,den / byM num den,t)) (Ev.bind hi (Ev.now _)))
  unfold qq1_.f
  cases hc:qf1_.f k num den with
  | none=>rfl
  | some g =>
    have hgg:g=(Int.gcd num den:Int):=by
      obtain ⟨K,hK⟩:=common_is (a:=num) (b:=den) (by omega) (by omega)
      have m:∀ k,LeO (qf1_.f k num den) (qf1_.f (k+1) num den):=fun k=>qf1_.mono _ _ k
      have h3:=at_rounds m (Nat.le_max_left k K) hc
      have h4:=hK (max k K) (Nat.le_max_right _ _)
      exact Option.some.inj (h3.symm.trans h4)
    subst hgg
    simp only [Option.bind_some]
    by_cases c:den < 0
    · have hb:byM num den=-(Int.gcd num den:Int):=by unfold byM;rw [if_pos c]
      have ew:wrap64 (-(Int.gcd num den:Int))=byM num den:=by rw [hb];exact w64 (by omega) (by omega)
      rw [if_pos c,ew,if_neg (by_ne hd),e1,e2]
    · have hb:byM num den=(Int.gcd num den:Int):=by unfold byM;rw [if_neg c]
      rw [if_neg c,← hb,if_neg (by_ne hd),e1,e2]
theorem scommon_loop (n:Nat):∀ (b a:Int),b.natAbs=n→a.natAbs≤9223372036854775807→n≤9223372036854775807→Ev (fun k=>qg1_.l0 k a b) (Int.gcd a b:Int):=by
  induction n using Nat.strongRecOn with
  | _ n ih =>
    intro b a hb ha hn
    by_cases h0:b=0
    · subst h0
      refine Ev.step (f:=fun _=>some (Int.gcd a 0:Int)) (fun k=>?_) (Ev.now _)
      rw [qg1_.l0,if_pos rfl,w64 (by omega) (by omega)]
      congr 1
      unfold mx
      rw [Int.gcd_zero_right]
      split <;> omega
    · have hm:(Int.tmod a b).natAbs=a.natAbs % b.natAbs:=Int.natAbs_tmod a b
      have hl:a.natAbs % b.natAbs < b.natAbs:=Nat.mod_lt _ (by omega)
      have hr:=ih (Int.tmod a b).natAbs (by omega) (Int.tmod a b) b rfl (by omega) (by omega)
      have e:(Int.gcd b (Int.tmod a b):Int)=(Int.gcd a b:Int):=by
        congr 1
        show Nat.gcd b.natAbs (Int.tmod a b).natAbs=Nat.gcd a.natAbs b.natAbs
        rw [hm,Nat.gcd_comm a.natAbs,Nat.gcd_rec b.natAbs a.natAbs,Nat.gcd_comm]
      rw [e] at hr
      refine Ev.step (fun k=>?_) hr
      simp only [qg1_.l0]
      rw [if_neg h0]
theorem scommon_is {a b:Int} (ha:a.natAbs≤9223372036854775807) (hb:b.natAbs≤9223372036854775807):Ev (fun k=>qg1_.f k a b) (Int.gcd a b:Int):=scommon_loop b.natAbs b a rfl ha hb
theorem sisfrac_is (a b:Int) (ha:a.natAbs≤9223372036854775807) (hb:b.natAbs≤9223372036854775807):Ev (fun k=>qv_.f k a b) (decide (okF ⟨a,b⟩)):=by
  have hs:∀ {c:Bool} {f:Nat→Option Bool},(∀ k,f k=some c)→Ev f c:=fun h=>⟨0,fun k _=>h k⟩
  by_cases c1:1≤b∧b≤1000000000
  · by_cases c2:-1000000000≤a∧a≤1000000000
    · have h1:=Ev.bind (scommon_is ha hb) (f:=fun _ t=>some (t == 1)) (r:=((Int.gcd a b:Int) == 1)) (Ev.now _)
      have e:decide (okF ⟨a,b⟩)=((Int.gcd a b:Int) == 1):=by
        simp only [okF,c1.1,c1.2,c2.1,c2.2,true_and];rw [Bool.eq_iff_iff,decide_eq_true_iff,beq_iff_eq];omega
      rw [e]
      refine Ev.congr (fun k=>?_) h1
      unfold qv_.f qw1_.f
      rw [if_pos (by omega)]
      simp only [Option.bind_some]
      rw [if_pos (by simpa using c1.2),if_pos (by omega)]
      simp only [Option.bind_some]
      rw [if_pos (by simpa using c2.2)]
    · have e:decide (okF ⟨a,b⟩)=false:=by
        rw [decide_eq_false_iff_not];simp only [okF];omega
      rw [e]
      refine hs fun k=>?_
      unfold qv_.f qw1_.f
      rw [if_pos (by omega)]
      simp only [Option.bind_some]
      rw [if_pos (by simpa using c1.2)]
      by_cases c3:a ≥ -1000000000
      · rw [if_pos c3]
        simp only [Option.bind_some]
        rw [if_neg (by simp;omega)]
      · rw [if_neg c3];simp
  · have e:decide (okF ⟨a,b⟩)=false:=by
      rw [decide_eq_false_iff_not];simp only [okF];omega
    rw [e]
    refine hs fun k=>?_
    unfold qv_.f qw1_.f
    by_cases c3:b ≥ 1
    · rw [if_pos c3]
      simp only [Option.bind_some]
      rw [if_neg (by simp;omega)]
    · rw [if_neg c3];simp
/-- The reference's answer. -/
def toldM (p:S77 × Bool):Int × Int × Bool:=if p.2=true then (p.1.f0,p.1.f1,true) else (0,0,false)
theorem sred_is {num den:Int} (hd:den ≠ 0) (h1:num.natAbs≤4000000000000000000) (h2:den.natAbs≤4000000000000000000):Ev (fun k=>qh1_.f k num den) (toldM (redM num den)):=by
  have hg:=gcd_le (a:=num) hd
  have b1:=div_small num (byM num den)
  have b2:=div_small den (byM num den)
  obtain ⟨q1,q2⟩:=by_dvd num den
  have e1:wrap64 (Int.tdiv num (byM num den))=num / byM num den:=by rw [Int.tdiv_eq_ediv_of_dvd q1,w64 (by omega) (by omega)]
  have e2:wrap64 (Int.tdiv den (byM num den))=den / byM num den:=by rw [Int.tdiv_eq_ediv_of_dvd q2,w64 (by omega) (by omega)]
  have hi:=sisfrac_is (num / byM num den) (den / byM num den) (by omega) (by omega)
  have hi2:Ev (fun k=>(qv_.f k (num / byM num den) (den / byM num den)).bind fun t=>if t=true then some (num / byM num den,den / byM num den,true) else some (0,0,false)) (toldM (redM num den)):=by
    refine Ev.bind hi ?_
    unfold toldM redM
    by_cases c:decide (okF ⟨num / byM num den,den / byM num den⟩)=true
    · simp only [c,if_true];exact Ev.now _
    · simp only [c,if_false];exact Ev.now _
  refine Ev.congr (fun k=>?_) (Ev.bind (scommon_is (a:=num) (b:=den) (by omega) (by omega)) (f:=fun k _=>(qv_.f k (num / byM num den) (den / byM num den)).bind fun t=>if t=true then some (num / byM num den,den / byM num den,true) else some (0,0,false)) hi2)
  unfold qh1_.f
  rw [if_neg hd]
  cases hc:qg1_.f k num den with
  | none=>rfl
  | some g =>
    have hgg:g=(Int.gcd num den:Int):=by
      obtain ⟨K,hK⟩:=scommon_is (a:=num) (b:=den) (by omega) (by omega)
      have m:∀ k,LeO (qg1_.f k num den) (qg1_.f (k+1) num den):=fun k=>qg1_.mono _ _ k
      have h3:=at_rounds m (Nat.le_max_left k K) hc
      have h4:=hK (max k K) (Nat.le_max_right _ _)
      exact Option.some.inj (h3.symm.trans h4)
    subst hgg
    simp only [Option.bind_some]
    by_cases c:den < 0
    · have hb:byM num den=-(Int.gcd num den:Int):=by unfold byM;rw [if_pos c]
      have ew:wrap64 (-(Int.gcd num den:Int))=byM num den:=by rw [hb];exact w64 (by omega) (by omega)
      rw [if_pos c,ew,if_neg (by_ne hd),e1,e2]
    · have hb:byM num den=(Int.gcd num den:Int):=by unfold byM;rw [if_neg c]
      rw [if_neg c,← hb,if_neg (by_ne hd),e1,e2]
theorem mul_le {a b A B:Int} (ha:-A≤a∧a≤A) (hb:-B≤b∧b≤B) (hA:0≤A) (hB:0≤B):-(A * B)≤a * b∧a * b≤A * B:=by
  have h1:(a * b).natAbs≤A.natAbs * B.natAbs:=by
    rw [Int.natAbs_mul];exact Nat.mul_le_mul (by omega) (by omega)
  have h2:((A.natAbs * B.natAbs:Nat):Int)=A * B:=by
    rw [Int.natCast_mul,Int.natAbs_of_nonneg hA,Int.natAbs_of_nonneg hB]
  omega
theorem okF_mul {a b:S77} (ha:okF a) (hb:okF b):(-1000000000000000000≤a.f0 * b.f1∧a.f0 * b.f1≤1000000000000000000)∧(-1000000000000000000≤a.f0 * b.f0∧a.f0 * b.f0≤1000000000000000000)∧(1≤a.f1 * b.f1∧a.f1 * b.f1≤1000000000000000000):=by
  obtain ⟨a1,a2,a3,a4,_⟩:=ha
  obtain ⟨b1,b2,b3,b4,_⟩:=hb
  have h1:=mul_le (a:=a.f0) (b:=b.f1) (A:=1000000000) (B:=1000000000) (by omega) (by omega) (by omega) (by omega)
  have h2:=mul_le (a:=a.f0) (b:=b.f0) (A:=1000000000) (B:=1000000000) (by omega) (by omega) (by omega) (by omega)
  have h3:=mul_le (a:=a.f1) (b:=b.f1) (A:=1000000000) (B:=1000000000) (by omega) (by omega) (by omega) (by omega)
  have h4:0 < a.f1 * b.f1:=Int.mul_pos (by omega) (by omega)
  omega
theorem plus_is {a b:S77} (ha:okF a) (hb:okF b):Ev (fun k=>qc2_.f k a.f0 a.f1 b.f0 b.f1) ((plusM a b).1.f0,(plusM a b).1.f1,(plusM a b).2):=by
  obtain ⟨h1,h2,h3⟩:=okF_mul ha hb
  obtain ⟨h4,h5,h6⟩:=okF_mul hb ha
  refine Ev.congr (fun k=>?_) (Ev.bind (red_is (num:=a.f0 * b.f1+b.f0 * a.f1) (den:=a.f1 * b.f1) (by omega) (by omega) (by omega)) (f:=fun _ t=>some (t.1,t.2.1,t.2.2)) (Ev.now _))
  unfold qc2_.f
  rw [w64 (x:=a.f0 * b.f1) (by omega) (by omega),w64 (x:=b.f0 * a.f1) (by omega) (by omega),w64 (x:=a.f1 * b.f1) (by omega) (by omega),w64 (by omega) (by omega)]
theorem times_is {a b:S77} (ha:okF a) (hb:okF b):Ev (fun k=>qy1_.f k a.f0 a.f1 b.f0 b.f1) ((timesM a b).1.f0,(timesM a b).1.f1,(timesM a b).2):=by
  obtain ⟨h1,h2,h3⟩:=okF_mul ha hb
  refine Ev.congr (fun k=>?_) (Ev.bind (red_is (num:=a.f0 * b.f0) (den:=a.f1 * b.f1) (by omega) (by omega) (by omega)) (f:=fun _ t=>some (t.1,t.2.1,t.2.2)) (Ev.now _))
  unfold qy1_.f
  rw [w64 (x:=a.f0 * b.f0) (by omega) (by omega),w64 (x:=a.f1 * b.f1) (by omega) (by omega)]
theorem splus_is {a b:S77} (ha:okF a) (hb:okF b):Ev (fun k=>qq2_.f k a.f0 a.f1 b.f0 b.f1) (toldM (plusM a b)):=by
  obtain ⟨h1,h2,h3⟩:=okF_mul ha hb
  obtain ⟨h4,h5,h6⟩:=okF_mul hb ha
  refine Ev.congr (fun k=>?_) (Ev.bind (sred_is (num:=a.f0 * b.f1+b.f0 * a.f1) (den:=a.f1 * b.f1) (by omega) (by omega) (by omega)) (f:=fun _ t=>some (t.1,t.2.1,t.2.2)) (Ev.now _))
  unfold qq2_.f
  rw [w64 (x:=a.f0 * b.f1) (by omega) (by omega),w64 (x:=b.f0 * a.f1) (by omega) (by omega),w64 (x:=a.f1 * b.f1) (by omega) (by omega),w64 (by omega) (by omega)]
theorem stimes_is {a b:S77} (ha:okF a) (hb:okF b):Ev (fun k=>qh2_.f k a.f0 a.f1 b.f0 b.f1) (toldM (timesM a b)):=by
  obtain ⟨h1,h2,h3⟩:=okF_mul ha hb
  refine Ev.congr (fun k=>?_) (Ev.bind (sred_is (num:=a.f0 * b.f0) (den:=a.f1 * b.f1) (by omega) (by omega) (by omega)) (f:=fun _ t=>some (t.1,t.2.1,t.2.2)) (Ev.now _))
  unfold qh2_.f
  rw [w64 (x:=a.f0 * b.f0) (by omega) (by omega),w64 (x:=a.f1 * b.f1) (by omega) (by omega)]
theorem plus_okF {a b:S77} (h:(plusM a b).2=true):okF (plusM a b).1:=red_okF h
theorem times_okF {a b:S77} (h:(timesM a b).2=true):okF (timesM a b).1:=red_okF h
theorem zero_okF:okF zeroF:=by decide
end Go.Proofs.Ytaiefdhenikiiaa.Base
namespace Go.Proofs.Ytaiefdhenikiiaa.Base
open Go.RowKit Go.Proofs.YtaiefdhenikiiaaW.PrintWords Go.Proofs.YtaiefdhenikiiaaW.PrintLast Go.Proofs.YtaiefdhenikiiaaW.PrintMore
set_option linter.unusedVariables false
set_option linter.unusedSimpArgs false
def cT (x:S79):List Value:=[.string x.f0,.int .i64 x.f1.f0,.int .i64 x.f1.f1]
def cellsT (xs:List S79):List Value:=xs.flatMap cT
theorem cellsT_len (xs:List S79):(cellsT xs).length=xs.length * 3:=by
  induction xs with
  | nil=>rfl
  | cons x xs ih=>simp only [cellsT,List.flatMap_cons,List.length_append,List.length_cons,cT,List.length_nil] at ih ⊢;omega
theorem cellsT_cons (x:S79) (xs:List S79):cellsT (x :: xs)=.string x.f0 :: .int .i64 x.f1.f0 :: .int .i64 x.f1.f1 :: cellsT xs:=rfl
theorem cellsT_at (xs:List S79):∀ (i:Nat) (h:i < xs.length),(cellsT xs)[i * 3]?=some (.string xs[i].f0)∧(cellsT xs)[i * 3+1]?=some (.int .i64 xs[i].f1.f0)∧(cellsT xs)[i * 3+2]?=some (.int .i64 xs[i].f1.f1):=by
  induction xs with
  | nil=>intro i h;simp at h
  | cons x xs ih =>
    intro i h
    cases i with
    | zero=>exact ⟨rfl,rfl,rfl⟩
    | succ i =>
      have:=ih i (by simpa using h)
      rw [cellsT_cons,show (i+1) * 3=i * 3+1+1+1 by omega]
      exact this
theorem cellsT_set0 (xs:List S79) (s:ByteArray):∀ (i:Nat) (h:i < xs.length),(cellsT xs).set (i * 3) (.string s)=cellsT (xs.set i ⟨s,xs[i].f1⟩):=by
  induction xs with
  | nil=>intro i h;simp at h
  | cons x xs ih =>
    intro i h
    cases i with
    | zero=>rfl
    | succ i =>
      have:=ih i (by simpa using h)
      rw [cellsT_cons,show (i+1) * 3=i * 3+1+1+1 by omega]
      simp only [List.set_cons_succ,this,List.getElem_cons_succ]
      rfl
theorem cellsT_set1 (xs:List S79) (n:Int):∀ (i:Nat) (h:i < xs.length),(cellsT xs).set (i * 3+1) (.int .i64 n)=cellsT (xs.set i ⟨xs[i].f0,⟨n,xs[i].f1.f1⟩⟩):=by
  induction xs with
  | nil=>intro i h;simp at h
  | cons x xs ih =>
    intro i h
    cases i with
    | zero=>rfl
    | succ i =>
      have:=ih i (by simpa using h)
      rw [cellsT_cons,show (i+1) * 3+1=i * 3+1+1+1+1 by omega]
      simp only [List.set_cons_succ,this,List.getElem_cons_succ]
      rfl
theorem cellsT_set2 (xs:List S79) (n:Int):∀ (i:Nat) (h:i < xs.length),(cellsT xs).set (i * 3+2) (.int .i64 n)=cellsT (xs.set i ⟨xs[i].f0,⟨xs[i].f1.f0,n⟩⟩):=by
  induction xs with
  | nil=>intro i h;simp at h
  | cons x xs ih =>
    intro i h
    cases i with
    | zero=>rfl
    | succ i =>
      have:=ih i (by simpa using h)
      rw [cellsT_cons,show (i+1) * 3+2=i * 3+2+1+1+1 by omega]
      simp only [List.set_cons_succ,this,List.getElem_cons_succ]
      rfl
theorem reps_cells {R:S79→List Value→Prop} (hR:∀ x cs,R x cs→cs=cT x):∀ (xs:List S79) (cs:List Value),Reps R 3 xs cs→cs=cellsT xs:=by
  intro xs
  induction xs with
  | nil=>intro cs h;have:=h.1;simp at this;subst this;rfl
  | cons x xs ih =>
    intro cs h
    have h0:=hR _ _ (h.2 0 x rfl)
    rw [Nat.zero_mul,List.drop_zero] at h0
    have hl:=h.1
    have h1:Reps R 3 xs (cs.drop 3):=by
      refine ⟨by rw [List.length_drop,hl,List.length_cons];omega,fun j p hp=>?_⟩
      have:=h.2 (j+1) p (by simpa using hp)
      rw [List.drop_drop,show 3+j * 3=(j+1) * 3 by omega]
      exact this
    have h2:=ih _ h1
    rw [← List.take_append_drop 3 cs,h0,h2]
    rfl
theorem cells_reps {R:S79→List Value→Prop} (hR:∀ x,R x (cT x)) (xs:List S79):Reps R 3 xs (cellsT xs):=by
  refine ⟨cellsT_len xs,fun j p hp=>?_⟩
  have:((cellsT xs).drop (j * 3)).take 3=cT p:=by
    induction xs generalizing j with
    | nil=>simp at hp
    | cons x xs ih =>
      cases j with
      | zero => obtain rfl : x = p := by simpa using hp
                rfl
      | succ j =>
        have:=ih j (by simpa using hp)
        rw [cellsT_cons,show (j+1) * 3=j * 3+1+1+1 by omega]
        exact this
  rw [this];exact hR p
section
variable {W W1:World} {base g cap:Nat} {ok:Nat→Prop} {v:Value} {xs:List S79}
theorem ownT (h:Kd.R k79 79 W base ok v xs):W.ownsRow base 79 3 v xs.length (cellsT xs):=by
  obtain ⟨h0,inner,ho,hr⟩:=h
  rw [← reps_cells (fun x cs hh=>k79_openM hh) xs inner hr]
  exact ho
theorem of_ownT (h:W.ownsRow base 79 3 v xs.length (cellsT xs)) (hok:∀ k,v.ownBlock=some k→ok k):Kd.R k79 79 W base ok v xs :=
  ⟨hok,cellsT xs,h,cells_reps (fun x=>k79_mkM _ _ _ x) xs⟩
theorem atT (h:Kd.R k79 79 W base ok (.slice (some ⟨g,0,none⟩) xs.length cap) xs) (i:Nat) (hi:i < xs.length) :
    (W.cell? ⟨g,i * 3,none⟩=some (.string xs[i].f0)∧W.cell? ⟨g,i * 3+1,none⟩=some (.int .i64 xs[i].f1.f0)∧W.cell? ⟨g,i * 3+2,none⟩=some (.int .i64 xs[i].f1.f1))∧W.frozen? ⟨g,i * 3,none⟩=false∧W.frozen? ⟨g,i * 3+1,none⟩=false∧W.frozen? ⟨g,i * 3+2,none⟩=false:=by
  have ho:=ownT h
  obtain ⟨c0,c1,c2⟩:=cellsT_at xs i hi
  exact ⟨⟨(ho.cellAt _ (by omega)).trans c0,(ho.cellAt _ (by omega)).trans c1,(ho.cellAt _ (by omega)).trans c2⟩,ho.frozenAt _,ho.frozenAt _,ho.frozenAt _⟩
theorem put0 {m:Nat} (h:Kd.R k79 79 W base ok (.slice (some ⟨g,0,none⟩) m cap) xs) (i:Nat) (hi:i < xs.length) (hm:xs.length=m) (s:ByteArray) :
    Kd.R k79 79 (W.setCell ⟨g,i * 3,none⟩ (.string s)) base ok (.slice (some ⟨g,0,none⟩) m cap) (xs.set i ⟨s,xs[i].f1⟩)∧W.grownBy (W.setCell ⟨g,i * 3,none⟩ (.string s)) (some g):=by
  subst hm
  have hs:=(ownT h).stored (i * 3) (.string s)
  rw [cellsT_set0 xs s i hi] at hs
  exact ⟨of_ownT (by rw [List.length_set];exact hs.1) h.1,hs.2⟩
theorem put1 {m:Nat} (h:Kd.R k79 79 W base ok (.slice (some ⟨g,0,none⟩) m cap) xs) (i:Nat) (hi:i < xs.length) (hm:xs.length=m) (n:Int) :
    Kd.R k79 79 (W.setCell ⟨g,i * 3+1,none⟩ (.int .i64 n)) base ok (.slice (some ⟨g,0,none⟩) m cap) (xs.set i ⟨xs[i].f0,⟨n,xs[i].f1.f1⟩⟩)∧W.grownBy (W.setCell ⟨g,i * 3+1,none⟩ (.int .i64 n)) (some g):=by
  subst hm
  have hs:=(ownT h).stored (i * 3+1) (.int .i64 n)
  rw [cellsT_set1 xs n i hi] at hs
  exact ⟨of_ownT (by rw [List.length_set];exact hs.1) h.1,hs.2⟩
theorem put2 {m:Nat} (h:Kd.R k79 79 W base ok (.slice (some ⟨g,0,none⟩) m cap) xs) (i:Nat) (hi:i < xs.length) (hm:xs.length=m) (n:Int) :
    Kd.R k79 79 (W.setCell ⟨g,i * 3+2,none⟩ (.int .i64 n)) base ok (.slice (some ⟨g,0,none⟩) m cap) (xs.set i ⟨xs[i].f0,⟨xs[i].f1.f0,n⟩⟩)∧W.grownBy (W.setCell ⟨g,i * 3+2,none⟩ (.int .i64 n)) (some g):=by
  subst hm
  have hs:=(ownT h).stored (i * 3+2) (.int .i64 n)
  rw [cellsT_set2 xs n i hi] at hs
  exact ⟨of_ownT (by rw [List.length_set];exact hs.1) h.1,hs.2⟩
end
end Go.Proofs.Ytaiefdhenikiiaa.Base
namespace Go.Proofs.Ytaiefdhenikiiaa.Base
open Go.RowKit Go.Proofs.YtaiefdhenikiiaaW.PrintWords Go.Proofs.YtaiefdhenikiiaaW.PrintLast Go.Proofs.YtaiefdhenikiiaaW.PrintMore
attribute [local go_sem] max2_int qo1_ max_two min_two max_three min_three max_four min_four Go.Proofs.YtaiefdhenikiiaaZ.qx_   -- for this text's walks alone
set_option linter.unusedVariables false
set_option linter.unusedSimpArgs false
def qj1_.l0:Nat→List S79→Int→Nat→Option (Int × List S79)
 | 0,_,_,_=>none
 | k+1,x,a,i=>if i < x.length then ((qz_.f k a).bind fun s=>qj1_.l0 k (x.set i ⟨s,⟨wrap64 (a+1),wrap64 (wrap64 (a+1)+1)⟩⟩) (wrap64 (wrap64 (wrap64 (a+1)+1)+1)) (i+1)) else some (a,x)
def qj1_.f (k:Nat) (l0:List S79) (a1:Int):Option (Int × List S79):=qj1_.l0 k l0 a1 0
theorem qj1_.mono_l:∀ k y0 y1 y2,LeO (qj1_.l0 k y0 y1 y2) (qj1_.l0 (k+1) y0 y1 y2)
 | 0,_,_,_=>fun r h=>by simp [qj1_.l0] at h
 | k+1,y0,y1,y2=>by
  unfold qj1_.l0
  exact LeO.ite (LeO.bind (qz_.mono _ _) (fun _=>qj1_.mono_l k _ _ _)) (LeO.refl _)
theorem qj1_.mono:∀ a0 a1 k,LeO (qj1_.f k a0 a1) (qj1_.f (k+1) a0 a1):=fun a0 a1 k=>qj1_.mono_l k _ _ _
set_option maxHeartbeats 8000000 in
set_option maxRecDepth 100000 in
theorem qj1_.calls (k:Nat) (P0_:Nat→Prop) (u9000_:Value) (l0:List S79) (a1:Int) (r1:Int) (r2:List S79) (w0 w:World) (hB:Below w0.heap.size w0 w) (ho0:Kd.R k79 79 w w0.heap.size P0_ u9000_ l0) (h:qj1_.f k l0 a1=some (r1,r2)) :
  Calls Try.prog 26 #[u9000_,.int .i64 a1] w fun e w'=>e=.returned (.int .i64 r1)∧Kd.R k79 79 w' w0.heap.size (fun k_=>(P0_ k_ ∨ w.heap.size≤k_)) u9000_ r2∧Below w0.heap.size w0 w'∧Kept w w' (fun k_=>P0_ k_):=by
 have hu79:=Try.underlying79
 have hu77:=Try.underlying77
 have HO0:=aK (show Kd.R k79 79 w w0.heap.size (fun k_=>(P0_ k_ ∨ w.heap.size≤k_)) u9000_ l0 from Kd.R_mono ho0 (fun k_ hk=>(.inl hk)))
 have HP0:=aK ho0
 have HK:=aK (Kept.refl w (fun k_=>P0_ k_))
 have HB:=aK hB
 obtain ⟨A,cap,rfl⟩:=Kd.qf2_ ho0
 have HLL:=aK (show l0.length≤maxLen from by
  obtain ⟨_,h2⟩:=ownT ho0
  rcases h2 with ⟨_,h3⟩|⟨_,_,_,_,_,_,h4,h5,_⟩
  ·rw [h3];exact Nat.zero_le _
  ·exact Nat.le_trans h4 h5)
 clear hB ho0
 have H':=aK (show qj1_.l0 k l0 a1 0=some (r1,r2) from h)
 clear h
 go_enter Try.func26,Try.ntmps26
 go_wp2
 go_loopg [1,5] k (fun kq v1 v5 w'=>∃ (x:List S79) (a:Int) (i:Nat),v1=.int .i64 a∧v5=.int .i64 i∧Aside0 (x.length=l0.length)∧Aside0 (i≤l0.length)∧Aside0 (qj1_.l0 kq x a i=some (r1,r2))∧Aside0 (kq≤k)∧Aside0 (Kd.R k79 79 w' w0.heap.size (fun k_=>(P0_ k_ ∨ w.heap.size≤k_)) (.slice A l0.length cap) x)∧Aside0 (Kept w w' (fun k_=>P0_ k_))∧Aside0 (Below w0.heap.size w0 w'))
 case atStart=>exact ⟨l0,a1,0,rfl,rfl,⟨rfl⟩,⟨Nat.zero_le _⟩,H',⟨Nat.le_refl _⟩,HO0,HK,HB⟩
 case round =>
  clear H' HO0
  obtain ⟨x,a,i,rfl,rfl,HXL,HIL,HA,HK1,HO,HK,HB⟩:=hrel
  cases gk with
  | zero=>exact absurd HA.out (by simp [qj1_.l0])
  | succ k1 =>
   have H:=HA.out
   clear HA
   simp only [qj1_.l0] at H
   by_cases c:i < x.length
   ·rw [if_pos c] at H
    obtain ⟨s,hs,H⟩:=Option.bind_eq_some_iff.mp H
    have hlt:(i:Int) < (l0.length:Int):=by have:=HXL.out;omega
    obtain ⟨g,cp,e_,gb,gl,cl,hg⟩:=Kd.R_form HO.out (by omega)
    have HM:=aK (show P0_ g ∨ w.heap.size≤g from HO.out.1 _ (by rw [e_];simp [Value.ownBlock]))
    obtain ⟨rfl⟩:A=some ⟨g,0,none⟩:=by injection e_
    have HS:=aK hs
    have HN:=aK H
    have HGB:=aK gb
    have HC:=aK c
    have HO1:=aK (show Kd.R k79 79 wr w0.heap.size (fun k_=>(P0_ k_ ∨ w.heap.size≤k_)) (.slice (some ⟨g,0,none⟩) x.length cap) x by rw [HXL.out];exact HO.out)
    clear hs H e_ gb gl hg HO c
    go_wp2_with (go_at_call 81;refine (qz_.calls k1 _ _ _ HS.out).mono ?_;rintro e w2 ⟨rfl,hb⟩;have O2:=Kd.qm2_ HO1.out hb;obtain ⟨⟨c0,c1,c2⟩,f0,f1,f2⟩:=atT O2 i HC.out;have HO2:=aK O2;have HB2:=aK (qj_ HB.out hb);have HK2:=aK (Kept.of_below hb (fun k_=>P0_ k_));clear O2 hb)
    go_roundg k1
    case measure=>have:=HK1.out;omega
    case rel =>
     have q0:=(put0 HO2.out i HC.out rfl s).1
     have q1:=(put1 q0 i (by rw [List.length_set];exact HC.out) (by rw [List.length_set]) (wrap64 (a+1))).1
     have q2:=(put2 q1 i (by rw [List.length_set,List.length_set];exact HC.out) (by rw [List.length_set,List.length_set]) (wrap64 (wrap64 (a+1)+1))).1
     simp only [List.getElem_set_self,List.set_set] at q2
     refine ⟨x.set i ⟨s,⟨wrap64 (a+1),wrap64 (wrap64 (a+1)+1)⟩⟩,_,i+1,rfl,?_,⟨by rw [List.length_set];exact HXL.out⟩,⟨by have:=HXL.out;have:=HC.out;omega⟩,HN,⟨by have:=HK1.out;omega⟩,⟨?_⟩,⟨?_⟩,⟨?_⟩⟩
     ·rw [w64 (by omega) (by have h1:=HLL.out;have h2:=HXL.out;have h3:=HC.out;simp only [maxLen] at h1;omega)];rfl
     ·rw [HXL.out] at q2;exact q2
     ·exact ((((Kept.then_ HK.out HK2.out (fun _ h_=>.inl h_)).setCell HM.out _).setCell HM.out _).setCell HM.out _)
     ·exact ((HB2.out.setCell HGB.out _).setCell HGB.out _).setCell HGB.out _
   ·rw [if_neg c] at H
    have HH:=aK (Option.some.inj H)
    have hlt:¬ (i:Int) < (l0.length:Int):=by have:=HXL.out;omega
    clear H c
    go_wp2
    go_ret
    have h1:a=r1:=congrArg Prod.fst HH.out
    have h2:x=r2:=congrArg Prod.snd HH.out
    subst h1 h2
    exact ⟨rfl,HO.out,HB.out,HK.out⟩
end Go.Proofs.Ytaiefdhenikiiaa.Base
namespace Go.Proofs.Ytaiefdhenikiiaa.Base
open Go.RowKit Go.Proofs.YtaiefdhenikiiaaW.PrintWords Go.Proofs.YtaiefdhenikiiaaW.PrintLast Go.Proofs.YtaiefdhenikiiaaW.PrintMore
set_option linter.unusedVariables false
set_option linter.unusedSimpArgs false
theorem w64m {x:Int} (h0:-9223372036854775808≤x) (h1:x≤9223372036854775807):wrap64 x=x:=by unfold wrap64;omega
theorem text_l0 (n:Nat):∀ (k:Nat) (s:ByteArray),k < n→k+s.size≤1000000000000→∃ t,Ev (fun q=>qz_.l0 q (k:Int) s) t:=by
  induction n with
  | zero=>intro k s h;omega
  | succ n ih =>
    intro k s hk hs
    by_cases c:k=0
    · refine ⟨_,Ev.step (f:=fun _=>some ((⟨#[109]⟩:ByteArray) ++ s)) (fun q=>?_) (Ev.now _)⟩
      simp only [qz_.l0]
      rw [if_neg (by omega),if_pos (by omega)]
    · obtain ⟨t,ht⟩:=ih (k / 10) (strOfNums [wrap64 (48+Int.tmod (k:Int) 10) % 256] ++ s) (by omega) (by rw [ByteArray.size_append,strOfNums_size];simp only [List.length_cons,List.length_nil];omega)
      refine ⟨t,Ev.step (fun q=>?_) ht⟩
      simp only [qz_.l0]
      have e:wrap64 (Int.tdiv (k:Int) 10)=((k / 10:Nat):Int):=by
        rw [Int.tdiv_eq_ediv_of_nonneg (by omega)]
        rw [w64m (by omega) (by omega)];omega
      rw [if_pos (by omega)]
      simp only [Option.bind_some]
      rw [if_pos (by rw [strOfNums_size];simp only [List.length_cons,List.length_nil];omega),e]
theorem text_ends (k:Nat) (hk:k≤1000000000):∃ t,Ev (fun q=>qz_.f q (k:Int)) t:=by
  by_cases c:k=0
  · exact ⟨_,Ev.congr (f:=fun _=>some (⟨#[109,48]⟩:ByteArray)) (fun q=>by unfold qz_.f;rw [if_pos (by omega)]) (Ev.now _)⟩
  · obtain ⟨t,ht⟩:=text_l0 (k+1) k (⟨#[]⟩:ByteArray) (by omega) (by show k+0≤_;omega)
    refine ⟨t,Ev.congr (fun q=>?_) ht⟩
    unfold qz_.f;rw [if_neg (by omega)]
theorem rd79 (l:List S79) (j:Nat) (h:j < l.length):rd_T79 l (j:Int)=l[j]:=by simp [rd_T79,List.getD_eq_getElem?_getD,List.getElem?_eq_getElem h]
theorem rd75 (l:List S75) (j:Nat) (h:j < l.length):rd_T75 l (j:Int)=l[j]:=by simp [rd_T75,List.getD_eq_getElem?_getD,List.getElem?_eq_getElem h]
/-- Marks. -/
theorem marksT_ends (n m:Nat):∀ (j k0:Nat) (l:List S79),j+m=n→l.length=n→n≤2000000→k0+3 * m≤100000000 →
    ∃ l':List S79,l'.length=n∧(∀ i,i < j→l'[i]?=l[i]?)∧Ev (fun q=>qj1_.l0 q l (k0:Int) j) (((k0+3 * m:Nat):Int),l')∧Ev (fun q=>qs_.l0 q l' (k0:Int) (j:Int)) ((k0+3 * m:Nat):Int):=by
  induction m with
  | zero =>
    intro j k0 l hj hl hn hk
    refine ⟨l,hl,fun _ _=>rfl,Ev.step (f:=fun _=>some ((k0:Int),l)) (fun q=>?_) ?_,Ev.step (f:=fun _=>some (k0:Int)) (fun q=>?_) ?_⟩
    · simp only [qj1_.l0];rw [if_neg (by omega)]
    · exact Ev.now _
    · simp only [qs_.l0];rw [if_neg (by omega)]
    · exact Ev.now _
  | succ m ih =>
    intro j k0 l hj hl hn hk
    have hlt:j < l.length:=by omega
    obtain ⟨t,ht⟩:=text_ends k0 (by omega)
    obtain ⟨x,hx⟩:∃ x:S79,x=⟨t,⟨((k0+1:Nat):Int),((k0+2:Nat):Int)⟩⟩:=⟨_,rfl⟩
    obtain ⟨l',h1,h2,h3,h4⟩:=ih (j+1) (k0+3) (l.set j x) (by omega) (by rw [List.length_set];exact hl) hn (by omega)
    have e1:wrap64 ((k0:Int)+1)=((k0+1:Nat):Int):=by rw [w64m (by omega) (by omega)];rfl
    have e2:wrap64 (((k0+1:Nat):Int)+1)=((k0+2:Nat):Int):=by rw [w64m (by omega) (by omega)];rfl
    have e3:wrap64 (((k0+2:Nat):Int)+1)=((k0+3:Nat):Int):=by rw [w64m (by omega) (by omega)];rfl
    have ej:wrap64 ((j:Int)+1)=((j+1:Nat):Int):=by rw [w64m (by omega) (by omega)];rfl
    rw [show k0+3+3 * m=k0+3 * (m+1) by omega] at h3 h4
    have hj':l'[j]?=some x:=by rw [h2 j (by omega),List.getElem?_set_self hlt]
    refine ⟨l',h1,fun i hi=>?_,?_,?_⟩
    · rw [h2 i (by omega),List.getElem?_set_ne (by omega)]
    · refine Ev.step (f:=fun q=>(qz_.f q (k0:Int)).bind fun t=>qj1_.l0 q (l.set j ⟨t,⟨((k0+1:Nat):Int),((k0+2:Nat):Int)⟩⟩) ((k0+3:Nat):Int) (j+1)) (fun q=>?_) (Ev.bind ht (by rw [← hx];exact h3))
      simp only [qj1_.l0]
      rw [if_pos hlt,e1,e2,e3]
    · have hjl:j < l'.length:=by omega
      have hr:rd_T79 l' (j:Int)=x:=by rw [rd79 l' j hjl];rw [List.getElem?_eq_getElem hjl] at hj';exact Option.some.inj hj'
      refine Ev.step (f:=fun q=>(qz_.f q (k0:Int)).bind fun t2=>if x.f0.toList=t2.toList then qs_.l0 q l' ((k0+3:Nat):Int) ((j+1:Nat):Int) else some (-1)) (fun q=>?_) (Ev.bind ht ?_)
      · simp only [qs_.l0]
        rw [if_pos (by omega),if_pos (by omega),e1,e2,e3,ej,hr,hx]
        simp only [if_true]
      · rw [hx];simp only [if_true]
        exact h4
theorem marksT (l:List S79) (hl:l.length≤2000000):∃ l':List S79,l'.length=l.length∧Ev (fun q=>qj1_.f q l 1) (((1+3 * l.length:Nat):Int),l')∧Ev (fun q=>qs_.f q l' 1) ((1+3 * l.length:Nat):Int):=by
  obtain ⟨l',h1,_,h3,h4⟩:=marksT_ends l.length l.length 0 1 l (by omega) rfl hl (by omega)
  exact ⟨l',h1,h3,h4⟩
theorem eqTerm_same (x:S79):qd3_.f x.f0 x.f1.f0 x.f1.f1 x.f0 x.f1.f0 x.f1.f1=some true:=by
  unfold qd3_.f qw2_.f
  simp
theorem eqT_loop (l:List S79) (hl:l.length≤2000000) (m:Nat):∀ j:Nat,j+m=l.length→Ev (fun q=>qc1_.l0 q l l (j:Int)) true:=by
  induction m with
  | zero =>
    intro j hj
    refine Ev.step (f:=fun _=>some true) (fun q=>?_) (Ev.now _)
    simp only [qc1_.l0];rw [if_neg (by omega)]
  | succ m ih =>
    intro j hj
    refine Ev.step (fun q=>?_) (ih (j+1) (by omega))
    simp only [qc1_.l0]
    rw [if_pos (by omega),if_pos (by omega),if_pos (by omega),w64m (x:=(j:Int)+1) (by omega) (by omega),eqTerm_same]
    simp only [Option.bind_some,if_true];rfl
theorem eqT_same (l:List S79) (hl:l.length≤2000000):Ev (fun q=>qc1_.f q l l) true:=by
  refine Ev.congr (fun q=>?_) (eqT_loop l hl l.length 0 (by omega))
  unfold qc1_.f;rw [if_pos rfl];rfl
/-- A law's term as_ the program's. -/
def toX (x:S75):S79:=⟨x.f0,⟨x.f1.f0,x.f1.f1⟩⟩
def toTo (l:List S75) (j:Nat):List S79:=(l.take j).map toX ++ List.replicate (l.length - j) z79
theorem toT_loop (l:List S75) (hl:l.length≤2000000) (m:Nat):∀ j:Nat,j+m=l.length→Ev (fun q=>ql1_.l0 q l (toTo l j) (j:Int)) (l.map toX):=by
  induction m with
  | zero =>
    intro j hj
    refine Ev.step (f:=fun _=>some (l.map toX)) (fun q=>?_) (Ev.now _)
    simp only [ql1_.l0];rw [if_neg (by omega)]
    unfold toTo
    rw [show j=l.length by omega,List.take_length,Nat.sub_self,List.replicate_zero,List.append_nil]
  | succ m ih =>
    intro j hj
    refine Ev.step (fun q=>?_) (ih (j+1) (by omega))
    have hjl:j < l.length:=by omega
    have hlen:(toTo l j).length=l.length:=by unfold toTo;rw [List.length_append,List.length_map,List.length_take,List.length_replicate];omega
    have hset:(toTo l j).set j (toX l[j])=toTo l (j+1):=by
      unfold toTo
      have h1:((l.take j).map toX).length=j:=by rw [List.length_map,List.length_take];omega
      rw [List.set_append_right _ _ (by omega),h1,Nat.sub_self,show l.length - j=(l.length - (j+1))+1 by omega,List.replicate_succ,List.set_cons_zero,List.take_succ_eq_append_getElem hjl,List.map_append]
      simp
    simp only [ql1_.l0]
    rw [if_pos (by omega),if_pos (by omega)]
    unfold laws_toTerm.f qz2_.f
    simp only [Option.bind_some]
    rw [if_pos (by omega),w64m (x:=(j:Int)+1) (by omega) (by omega),rd75 l j hjl,Int.toNat_natCast]
    show ql1_.l0 q l ((toTo l j).set j (toX l[j])) _=_
    rw [hset];rfl
theorem toT_is (l:List S75) (hl:l.length≤2000000):Ev (fun q=>ql1_.f q l) (l.map toX):=by
  refine Ev.congr (fun q=>?_) (toT_loop l hl l.length 0 (by omega))
  unfold ql1_.f
  rw [if_pos (by omega),if_pos (by omega)]
  rfl
end Go.Proofs.Ytaiefdhenikiiaa.Base
namespace Go.Proofs.Ytaiefdhenikiiaa.Base
open Go.RowKit Go.Proofs.YtaiefdhenikiiaaW.PrintWords Go.Proofs.YtaiefdhenikiiaaW.PrintLast Go.Proofs.YtaiefdhenikiiaaW.PrintMore
set_option linter.unusedVariables false
set_option linter.unusedSimpArgs false
theorem drewN_set (w:World) (n:Nat) (p:Addr) (v:Value):(w.drewN n).setCell p v=(w.setCell p v).drewN n:=rfl
theorem alloc_set (w:World) (cs:Array Value) (t:TypeId) (i:Nat) (v:Value):(w.alloc (.cells cs t)).setCell ⟨w.heap.size,i,none⟩ v=w.alloc (.cells (cs.setIfInBounds i v) t):=World.setCell_alloc_at (w:=w) cs t w.heap.size i v rfl
set_option maxHeartbeats 4000000 in
theorem at_x (k:Nat) (w:World) (g h:Nat) (t:Tb) (H:TabAt w g h t) (wd:ByteArray) (kk:Nat) (hk:kk < t.vs.length) (hn:qt1_.f k (t.d:Int) wd=some (kk:Int)) :
    Calls Try.prog 176 #[.pointer (some ⟨g,0,none⟩),.string wd] w fun e w'=>e=.returned (.agg #[.int .i64 t.vs[kk].f0,.int .i64 t.vs[kk].f1])∧∃ m,w'=(w.alloc (.cells #[.int .i64 t.vs[kk].f0,.int .i64 t.vs[kk].f1] 77)).drewN m:=by
  have hu:=Try.underlying77
  have h0:=H.c0
  have h2:=H.c2
  have v0:=H.v0 kk hk
  have v1:=H.v1 kk hk
  have n0:=World.new_ne w _ h0
  have n1:=World.new_ne w _ v0
  go_enter Try.func176,Try.ntmps176
  go_wp2
  go_region_held3 (fun w'=>w'.cell? ⟨g,0,none⟩=some (.int .i64 (t.d:Int))∧w'.cell? ⟨g,2,none⟩=some (.slice (some ⟨h,0,none⟩) t.vs.length t.vs.length)∧w'.cell? ⟨h,kk * 2,none⟩=some (.int .i64 t.vs[kk].f0)∧w'.cell? ⟨h,kk * 2+1,none⟩=some (.int .i64 t.vs[kk].f1)) (go_keep) (first|(go_at_call 166;refine (qt1_.calls k _ _ _ _ hn).mono ?_;rintro e w' ⟨rfl,⟨nd,rfl⟩⟩))
  go_wp2
  go_returns
  refine ⟨rfl,1+nd,?_⟩
  rw [drewN_set,drewN_set,alloc_set,alloc_set]
  rfl
theorem at_ (k:Nat) (w:World) (g h:Nat) (t:Tb) (H:TabAt w g h t) (wd:ByteArray) (kk:Nat) (hk:kk < t.vs.length) (hn:qt1_.f k (t.d:Int) wd=some (kk:Int)) :
    Calls Try.prog 176 #[.pointer (some ⟨g,0,none⟩),.string wd] w fun e w'=>e=.returned (.agg #[.int .i64 t.vs[kk].f0,.int .i64 t.vs[kk].f1])∧Below w.heap.size w w':=by
  refine (at_x k w g h t H wd kk hk hn).mono ?_
  rintro e w' ⟨rfl,m,rfl⟩
  exact ⟨rfl,qa_ (qb_ (Below.refl _ _) _) _⟩
theorem new_at {W:World} {cs:Array Value} {e:TypeId} {i:Nat} (h:i=W.heap.size):(W.alloc (.cells cs e)).heap[i]?=some (.cells cs e (0,0)):=by subst h;exact blk_new W _
theorem old_at {W:World} {o x:Obj} {i:Nat} (h:W.heap[i]?=some x):(W.alloc o).heap[i]?=some x:=(heap_alloc_old W o (blk_lt h)).trans h
/-- What check leaves. -/
def Tb.chk (t:Tb) (ok:Bool):Tb:={ t with bad:=t.bad || !ok }
def chkF (a:S77) (ok:Bool):S77:=if ok=true then a else zeroF
theorem TabAt.setBad {w:World} {g h:Nat} {t:Tb} (H:TabAt w g h t) (b:Bool):TabAt (w.setCell ⟨g,3,none⟩ (.bool b)) g h { t with bad:=b } :=
  ⟨by rw [qt_ H.st];rfl,by exact qk1_ H.vl H.ne.symm _⟩
theorem TabAt.far {w:World} {g h:Nat} {t:Tb} (H:TabAt w g h t) {p:Addr} (hg:g ≠ p.block) (hh:h ≠ p.block) (u:Value):TabAt (w.setCell p u) g h t:=⟨qk1_ H.st hg u,qk1_ H.vl hh u⟩
theorem Mut.set {w w':World} {S:Nat→Prop} (h:Mut w w' S) {p:Addr} (hp:p.block < w.heap.size→S p.block) (u:Value):Mut w (w'.setCell p u) S :=
  ⟨h.os,h.tape,h.output,by simpa using h.size,fun k hk hn=>by rw [Below.heap_setCell w' p u k (fun e=>hn (by subst e;exact hp hk))];exact h.block k hk hn⟩
theorem Mut.alloc {w w':World} {S:Nat→Prop} (h:Mut w w' S) (o:Obj):Mut w (w'.alloc o) S:=h.then_ (Mut.of (S:=fun _=>False) (qb_ (Below.refl _ _) o)) (fun _ _ hf=>hf.elim)
set_option maxHeartbeats 4000000 in
set_option maxRecDepth 100000 in
theorem check_ (w:World) (g h:Nat) (t:Tb) (H:TabAt w g h t) (a:S77) (ok:Bool) :
    Calls Try.prog 127 #[.pointer (some ⟨g,0,none⟩),.agg #[.int .i64 a.f0,.int .i64 a.f1],.bool ok] w fun e w'=>e=.returned (.agg #[.int .i64 (chkF a ok).f0,.int .i64 (chkF a ok).f1])∧TabAt w' g h (t.chk ok)∧Mut w w' (fun k=>k=g):=by
  have hu:=Try.underlying77
  have h3:=H.c3
  have n0:=World.new_ne w _ h3
  have n1:=H.ltg
  have n2:=H.lth
  have n3:=qd_ H.st 3
  cases ok with
  | true =>
    go_enter Try.func127,Try.ntmps127
    go_wp2
    go_returns
    exact ⟨rfl,by rw [show t.chk true=t from by simp [Tb.chk]];exact (H.below (qb_ (qb_ (Below.refl _ _) _) _)),((Mut.refl _ _).alloc _).alloc _⟩
  | false =>
    go_enter Try.func127,Try.ntmps127
    go_wp2_with (go_at_call 180;refine (impl_zero.calls 0 1 _ rfl).mono ?_;rintro e w1 ⟨rfl,hb⟩;have b0:=qm_ (g:=w.heap.size+1) (new_at (by simp)) hb;have b1:w1.cell? ⟨w.heap.size+1,0,none⟩=some (.int .i64 0):=qg_ b0 0;have b2:w1.cell? ⟨w.heap.size+1,1,none⟩=some (.int .i64 0):=qg_ b0 1;have b3:=qd_ b0 0;have b4:=qd_ b0 1)
    refine bodyPost_ret (results_cell_row rfl _ _ _ _ _ _ _ rfl (qt_ (qt_ b0 0 _) 1 _) hu rfl (by kernel_rfl)) rfl ?_
    have T1:=((H.setBad true).below (qb_ (qb_ (Below.refl _ _) (.cells #[.int .i64 a.f0,.int .i64 a.f1] 77)) (.cells #[.int .i64 0,.int .i64 0] 77))).below hb
    refine ⟨rfl,?_,?_⟩
    · rw [show t.chk false={ t with bad:=true } from by simp [Tb.chk]]
      exact (T1.far (by simp;omega) (by simp;omega) _).far (by simp;omega) (by simp;omega) _
    · refine Mut.set (Mut.set (Mut.then_ (Mut.alloc (Mut.alloc (Mut.set (Mut.refl w _) ?_ _) _) _) (Mut.of (S:=fun _=>False) hb) (fun _ _ hf=>hf.elim)) ?_ _) ?_ _
      · exact fun _=>rfl
      · exact fun hl=>absurd hl (by simp)
      · exact fun hl=>absurd hl (by simp)
end Go.Proofs.Ytaiefdhenikiiaa.Base
namespace Go.Proofs.Ytaiefdhenikiiaa.Base
open Go.RowKit Go.Proofs.YtaiefdhenikiiaaW.PrintWords Go.Proofs.YtaiefdhenikiiaaW.PrintLast Go.Proofs.YtaiefdhenikiiaaW.PrintMore
set_option linter.unusedVariables false
set_option linter.unusedSimpArgs false
theorem TabAt.alloc {w:World} {g h:Nat} {t:Tb} (H:TabAt w g h t) (o:Obj):TabAt (w.alloc o) g h t:=H.below (qb_ (Below.refl _ _) o)
theorem TabAt.drew {w:World} {g h:Nat} {t:Tb} (H:TabAt w g h t):TabAt w.drew g h t:=⟨H.st,H.vl⟩
theorem TabAt.drewN {w:World} {g h:Nat} {t:Tb} (H:TabAt w g h t) (n:Nat):TabAt (w.drewN n) g h t:=⟨H.st,H.vl⟩
theorem Mut.drew {w w':World} {S:Nat→Prop} (h:Mut w w' S):Mut w w'.drew S:=⟨h.os,h.tape,h.output,h.size,h.block⟩
theorem Mut.drewN {w w':World} {S:Nat→Prop} (h:Mut w w' S) (n:Nat):Mut w (w'.drewN n) S:=⟨h.os,h.tape,h.output,h.size,h.block⟩
theorem Mut.call {w w' w'':World} {S:Nat→Prop} (h:Mut w w' S) (hb:Below w'.heap.size w' w''):Mut w w'' S:=h.then_ (Mut.of (S:=fun _=>False) hb) (fun _ _ hf=>hf.elim)
theorem Mut.mono {w w':World} {S T:Nat→Prop} (h:Mut w w' S) (hT:∀ i,i < w.heap.size→S i→T i):Mut w w' T:=⟨h.os,h.tape,h.output,h.size,fun k hk hn=>h.block k hk (fun hs=>hn (hT k hk hs))⟩
theorem Mut.blk {w w':World} {S:Nat→Prop} (m:Mut w w' S) {k:Nat} {o:Obj} (h:w.heap[k]?=some o) (hS:¬ S k):w'.heap[k]?=some o:=(m.block k (blk_lt h) hS).trans h
/-- A fraction that is a variable in block b. -/
def FrAt (W:World) (b:Nat) (a:S77):Prop:=W.heap[b]?=some (.cells #[.int .i64 a.f0,.int .i64 a.f1] 77 (0,0))
section
variable {W W' w w':World} {b:Nat} {a:S77}
theorem FrAt.c0 (H:FrAt W b a):W.cell? ⟨b,0,none⟩=some (.int .i64 a.f0):=qg_ H 0
theorem FrAt.c1 (H:FrAt W b a):W.cell? ⟨b,1,none⟩=some (.int .i64 a.f1):=qg_ H 1
theorem FrAt.lt (H:FrAt W b a):b < W.heap.size:=blk_lt H
theorem FrAt.new (W:World) (a:S77):FrAt (W.alloc (.cells #[.int .i64 a.f0,.int .i64 a.f1] 77)) W.heap.size a:=blk_new W _
theorem FrAt.new' {b:Nat} (h:b=W.heap.size) (a:S77):FrAt (W.alloc (.cells #[.int .i64 a.f0,.int .i64 a.f1] 77)) b a:=new_at h
theorem FrAt.below (H:FrAt W b a) (hb:Below W.heap.size W W'):FrAt W' b a:=qm_ H hb
theorem FrAt.alloc (H:FrAt W b a) (o:Obj):FrAt (W.alloc o) b a:=old_at H
theorem FrAt.drew (H:FrAt W b a):FrAt W.drew b a:=H
theorem FrAt.drewN (H:FrAt W b a) (n:Nat):FrAt (W.drewN n) b a:=H
theorem FrAt.mut {S:Nat→Prop} (H:FrAt w b a) (m:Mut w w' S) (h:¬ S b):FrAt w' b a:=m.blk H h
theorem FrAt.far (H:FrAt W b a) {p:Addr} (h:b ≠ p.block) (u:Value):FrAt (W.setCell p u) b a:=qk1_ H h u
end
/-- What add leaves. -/
def Tb.put (t:Tb) (kk:Nat) (a:S77):Tb:={ t with vs:=t.vs.set kk a }
def Tb.add (t:Tb) (kk:Nat) (a:S77):Tb:=(t.chk (plusM (t.vs.getD kk zeroF) a).2).put kk (chkF (plusM (t.vs.getD kk zeroF) a).1 (plusM (t.vs.getD kk zeroF) a).2)
theorem TabAt.put {w:World} {g h:Nat} {t:Tb} (H:TabAt w g h t) (kk:Nat) (hk:kk < t.vs.length) (a:S77):TabAt ((w.setCell ⟨h,kk * 2,none⟩ (.int .i64 a.f0)).setCell ⟨h,kk * 2+1,none⟩ (.int .i64 a.f1)) g h (t.put kk a):=by
  refine ⟨?_,?_⟩
  · have:=qk1_ (qk1_ H.st (p:=⟨h,kk * 2,none⟩) H.ne (.int .i64 a.f0)) (p:=⟨h,kk * 2+1,none⟩) H.ne (.int .i64 a.f1)
    rw [this];simp only [Tb.put,List.length_set]
  · rw [qt_ (qt_ H.vl _ _) _ _]
    simp only [Tb.put,cellsF_set _ _ _ hk,List.setIfInBounds_toArray,Nat.mul_comm]
theorem Tb.add_eq (t:Tb) (kk:Nat) (hk:kk < t.vs.length) (a:S77):t.add kk a=(t.chk (plusM t.vs[kk] a).2).put kk (chkF (plusM t.vs[kk] a).1 (plusM t.vs[kk] a).2):=by
  unfold Tb.add
  rw [List.getD_eq_getElem?_getD,List.getElem?_eq_getElem hk,Option.getD_some]
set_option maxHeartbeats 8000000 in
set_option maxRecDepth 100000 in
theorem add_ (k:Nat) (w:World) (g h:Nat) (t:Tb) (H:TabAt w g h t) (wd:ByteArray) (a:S77) (kk:Nat) (hk:kk < t.vs.length) (hn:qt1_.f k (t.d:Int) wd=some (kk:Int)) (hp:qc2_.f k t.vs[kk].f0 t.vs[kk].f1 a.f0 a.f1=some ((plusM t.vs[kk] a).1.f0,(plusM t.vs[kk] a).1.f1,(plusM t.vs[kk] a).2)) :
    Calls Try.prog 159 #[.pointer (some ⟨g,0,none⟩),.string wd,.agg #[.int .i64 a.f0,.int .i64 a.f1]] w fun e w'=>e=.returned (.tuple #[])∧TabAt w' g h (t.add kk a)∧Mut w w' (fun k=>k=g ∨ k=h):=by
  have hu:=Try.underlying77
  have h0:=H.c0
  have HB:=Aside0.mk H
  have m1:=H.ltg
  have m2:=H.lth
  have m3:=H.ne
  clear H
  go_enter Try.func159,Try.ntmps159
  go_wp2_with (go_at_call 166;refine (qt1_.calls k _ _ _ _ hn).mono ?_;rintro e w1 ⟨rfl,hd⟩;have M1:=Mut.call (S:=fun k=>k=g ∨ k=h) (Mut.alloc (Mut.refl w _) _) hd.below;have T1:=(HB.out.alloc _).below hd.below;have b1:FrAt w1 w.heap.size a:=(FrAt.new w a).below hd.below;clear hd h0;have M1:=Aside0.mk M1;have HT:=Aside0.mk T1;have HX:=Aside0.mk b1;have y0:=T1.c2;have y1:=T1.v0 kk hk;have y2:=T1.v1 kk hk;have y3:=b1.c0;have y4:=b1.c1;clear T1 b1)
  go_region_with (first
    | (go_at_call 183;refine (qc2_.calls k _ _ _ _ _ _ _ _ hp).mono ?_;rintro e w2 ⟨rfl,hb⟩;have T2:=HT.out.drew.below hb;have b2:=HX.out.drew.below hb;have M2:=M1.out.drew.call hb;clear hb;have HT2:=Aside0.mk T2;have HX2:=Aside0.mk b2;have M2:=Aside0.mk M2;have z0:=T2.c2;have z3:=b2.c0;have z4:=b2.c1;clear T2 b2)
    | (go_at_call 127;refine (check_ _ g h t HT2.out (plusM t.vs[kk] a).1 (plusM t.vs[kk] a).2).mono ?_;rintro e w3 ⟨rfl,T3,m3⟩;have M3:=Aside0.mk (M2.out.then_ m3 (fun _ _ h=>Or.inl h));clear m3;have HT3:=Aside0.mk T3;have u0:w3.cell? ⟨g,2,none⟩=some (.slice (some ⟨h,0,none⟩) t.vs.length t.vs.length):=T3.c2;have u1:=T3.v0 kk hk;have u2:=T3.v1 kk hk;have u3:=qd_ T3.vl (kk * 2);have u4:=qd_ T3.vl (kk * 2+1);clear T3))
  all_goals
    go_returns
    refine ⟨rfl,?_,?_⟩
    · rw [Tb.add_eq t kk hk a]
      exact HT3.out.put kk hk _
    · refine Mut.set (Mut.set M3.out ?_ _) ?_ _
      · exact fun _=>Or.inr rfl
      · exact fun _=>Or.inr rfl
end Go.Proofs.Ytaiefdhenikiiaa.Base
namespace Go.Proofs.Ytaiefdhenikiiaa.Base
open Go.RowKit Go.Proofs.YtaiefdhenikiiaaW.PrintWords Go.Proofs.YtaiefdhenikiiaaW.PrintLast Go.Proofs.YtaiefdhenikiiaaW.PrintMore
set_option linter.unusedVariables false
set_option linter.unusedSimpArgs false
def ltr (i:Nat):ByteArray:=strOfNums [((48+i:Nat):Int)]
theorem ltr_size (i:Nat):(ltr i).size=1:=strOfNums_size _
def nextW (d:Nat) (ws:List ByteArray):List ByteArray:=ws.flatMap (fun w=>(List.range d).map (fun i=>w ++ ltr i))
def wordsL (d:Nat):Nat→List ByteArray
  | 0=>[(⟨#[]⟩:ByteArray)]
  | n+1=>nextW d (wordsL d n)
theorem nextW_size {d m:Nat} {ws:List ByteArray} (h:∀ w ∈ ws,w.size=m):∀ w ∈ nextW d ws,w.size=m+1:=by
  intro w hw
  simp only [nextW,List.mem_flatMap,List.mem_map] at hw
  obtain ⟨v,hv,i,_,rfl⟩:=hw
  rw [ByteArray.size_append,h v hv,ltr_size]
theorem wordsL_size (d:Nat):∀ n,∀ w ∈ wordsL d n,w.size=n
  | 0=>by intro w hw;simp [wordsL] at hw;subst hw;rfl
  | n+1=>nextW_size (wordsL_size d n)
theorem nextW_length (d:Nat) (ws:List ByteArray):(nextW d ws).length=ws.length * d:=by
  induction ws with
  | nil=>simp [nextW]
  | cons w ws ih=>simp only [nextW,List.flatMap_cons,List.length_append,List.length_map,List.length_range] at ih ⊢;rw [ih,List.length_cons,Nat.add_mul];omega
theorem wordsL_length (d:Nat):∀ n,(wordsL d n).length=d ^ n
  | 0=>rfl
  | n+1=>by simp only [wordsL];rw [nextW_length,wordsL_length d n,Nat.pow_succ]
theorem wordsL_bound {d n:Nat} (hd:d≤3) (hn:n≤20):(wordsL d n).length≤3486784401:=by
  rw [wordsL_length]
  calc d ^ n≤3 ^ n:=Nat.pow_le_pow_left hd n
    _≤3 ^ 20:=Nat.pow_le_pow_right (by omega) hn
    _=3486784401:=by decide
theorem letter_is (i:Nat) (h:i < 100):qi3_.f (i:Int)=some (ltr i):=by
  unfold qi3_.f ltr
  rw [show (48+(i:Int) % 256) % 256=((48+i:Nat):Int) by omega]
theorem iw2 (d:Nat) (hd:d≤3) (x11 x12:Int) (w:ByteArray) (hw:w.size≤20) (ws:List ByteArray) (x15 x16:Int) (r:List ByteArray) (m:Nat):∀ (i:Nat) (acc:List ByteArray),i+m=d →
    acc.length+m≤8796093022208 →
    Ev (fun k=>qy_.l1 k (d:Int) (acc ++ (List.range' i m).map (fun q=>w ++ ltr q)) x11 x12 ws x15 (wrap64 (x16+1))) r →
    Ev (fun k=>qy_.l2 k (d:Int) acc w x11 x12 ws x15 x16 (d:Int) (i:Int)) r:=by
  induction m with
  | zero =>
    intro i acc hi _ h
    refine Ev.step (fun k=>?_) h
    simp only [qy_.l2]
    rw [if_neg (by omega)]
    simp
  | succ m ih =>
    intro i acc hi hb h
    refine Ev.step (fun k=>?_) (ih (i+1) (acc ++ [w ++ ltr i]) (by omega) (by simp;omega) ?_)
    · simp only [qy_.l2]
      have e2:wrap64 ((i:Int)+1)=((i+1:Nat):Int):=by unfold wrap64;omega
      have:=ltr_size i
      rw [if_pos (by omega),letter_is i (by omega)]
      simp only [Option.bind_some,e2]
      rw [if_pos (by omega),if_pos (by omega)]
    · rw [List.append_assoc,List.range'_succ] at *
      exact h
theorem iw1 (d:Nat) (hd:d≤3) (x11 x12:Int) (ws:List ByteArray) (hws:∀ w ∈ ws,w.size≤20) (hl:ws.length≤3486784401) (r:List ByteArray) (m:Nat):∀ (j:Nat) (acc:List ByteArray),j+m=ws.length →
    acc.length+m * d≤8796093022208 →
    Ev (fun k=>qy_.l0 k (d:Int) (acc ++ nextW d (ws.drop j)) x11 (wrap64 (x12+1))) r →
    Ev (fun k=>qy_.l1 k (d:Int) acc x11 x12 ws (ws.length:Int) (j:Int)) r:=by
  induction m with
  | zero =>
    intro j acc hj _ h
    refine Ev.step (fun k=>?_) h
    simp only [qy_.l1]
    rw [if_neg (by omega),List.drop_eq_nil_of_le (by omega)]
    simp [nextW]
  | succ m ih =>
    intro j acc hj hb h
    have hlt:j < ws.length:=by omega
    have e2:wrap64 ((j:Int)+1)=((j+1:Nat):Int):=by unfold wrap64;omega
    rw [Nat.add_mul] at hb
    have hw:ws[j].size≤20:=hws _ (List.getElem_mem hlt)
    have h2:=iw2 d hd x11 x12 ws[j] hw ws (ws.length:Int) (j:Int) r d 0 acc (by omega) (by omega) (by
      rw [e2]
      refine ih (j+1) _ (by omega) (by simp;omega) ?_
      rw [List.append_assoc]
      have:List.map (fun q=>ws[j] ++ ltr q) (List.range' 0 d) ++ nextW d (ws.drop (j+1))=nextW d (ws.drop j):=by
        rw [List.drop_eq_getElem_cons hlt]
        simp only [nextW,List.flatMap_cons,List.range_eq_range']
      rw [this]
      exact h)
    refine Ev.step (fun k=>?_) h2
    simp only [qy_.l1]
    have e3:rdOf ByteArray.empty ws (j:Int)=ws[j]:=by simp [rdOf,List.getElem?_eq_getElem hlt]
    rw [if_pos (by omega),if_pos (by omega),if_pos (by omega),e3]
    rfl
theorem iw0 (d:Nat) (hd:d≤3) (N:Nat) (n:Nat):∀ m:Nat,m+n=N→N≤20→Ev (fun k=>qy_.l0 k (d:Int) (wordsL d m) (N:Int) (m:Int)) (wordsL d N):=by
  induction n with
  | zero =>
    intro m hm _
    obtain rfl:m=N:=by omega
    refine Ev.step (f:=fun _=>some (wordsL d m)) (fun k=>?_) (Ev.now _)
    simp only [qy_.l0]
    rw [if_neg (by omega)]
  | succ n ih =>
    intro m hm hN
    have hb:=wordsL_bound (d:=d) (n:=m) hd (by omega)
    have h1:=iw1 d hd (N:Int) (m:Int) (wordsL d m) (fun w hw=>by rw [wordsL_size d m w hw];omega) hb (wordsL d N) (wordsL d m).length 0 [] (by omega)
      (by have:(wordsL d m).length * d≤(wordsL d m).length * 3:=Nat.mul_le_mul_left _ hd
          simp;omega) (by
      have e:wrap64 ((m:Int)+1)=((m+1:Nat):Int):=by unfold wrap64;omega
      rw [e]
      simp only [List.nil_append,List.drop_zero]
      exact ih (m+1) (by omega) hN)
    refine Ev.step (fun k=>?_) h1
    simp only [qy_.l0]
    rw [if_pos (by omega)]
    rfl
/-- The program's words. -/
theorem impl_words_are (d n:Nat) (hd:d≤3) (hn:n≤20):Ev (fun k=>qy_.f k (d:Int) (n:Int)) (wordsL d n):=by
  have:=iw0 d hd n n 0 (by omega) hn
  exact this
def encW (l:List Nat):ByteArray:=⟨(l.map fun i=>UInt8.ofNat (48+i)).toArray⟩
def wordsN (d:Nat):Nat→List (List Nat)
  | 0=>[[]]
  | n+1=>(wordsN d n).flatMap fun w=>(List.range d).map fun i=>w ++ [i]
theorem encW_list (l:List Nat):(encW l).toList=l.map fun i=>UInt8.ofNat (48+i):=by rw [ByteArray.toList_eq];rfl
theorem encW_size (l:List Nat):(encW l).size=l.length:=by simp [encW,ByteArray.size]
theorem encW_append (a b:List Nat):encW a ++ encW b=encW (a ++ b):=by
  apply ByteArray.ext
  simp [encW,ByteArray.data_append]
theorem ltr_enc (i:Nat):ltr i=encW [i]:=by
  unfold ltr encW strOfNums
  simp only [List.map_cons,List.map_nil,Int.toNat_natCast]
theorem wordsL_enc (d:Nat):∀ n,wordsL d n=(wordsN d n).map encW
  | 0=>rfl
  | n+1=>by
    simp only [wordsL,wordsN,nextW]
    rw [wordsL_enc d n,List.flatMap_map,List.map_flatMap]
    congr 1;funext w
    rw [List.map_map]
    apply List.map_congr_left
    intro i _
    simp only [Function.comp,ltr_enc,encW_append]
theorem wordsN_lt (d:Nat):∀ n,∀ w ∈ wordsN d n,w.length=n∧∀ i ∈ w,i < d
  | 0=>by intro w hw;simp [wordsN] at hw;subst hw;simp
  | n+1=>by
    intro w hw
    simp only [wordsN,List.mem_flatMap,List.mem_map,List.mem_range] at hw
    obtain ⟨v,hv,i,hi,rfl⟩:=hw
    obtain ⟨h1,h2⟩:=wordsN_lt d n v hv
    refine ⟨by simp [h1],fun j hj=>?_⟩
    rcases List.mem_append.1 hj with hj|hj
    · exact h2 j hj
    · rw [List.mem_singleton.1 hj];exact hi
def lessN:List Nat→List Nat→Bool
  | _,[]=>false
  | [],_ :: _=>true
  | a :: x,b :: y=>a < b || (a == b && lessN x y)
theorem less_enc:∀ a b:List Nat,(∀ i ∈ a,i < 100)→(∀ i ∈ b,i < 100)→Op.bytesLess (a.map fun i=>UInt8.ofNat (48+i)) (b.map fun i=>UInt8.ofNat (48+i))=lessN a b
  | a,[],_,_=>by cases a <;> rfl
  | [],b :: y,_,_=>rfl
  | a :: x,b :: y,ha,hb=>by
    have ih:=less_enc x y (fun i hi=>ha i (List.mem_cons_of_mem _ hi)) (fun i hi=>hb i (List.mem_cons_of_mem _ hi))
    have h1:=ha a List.mem_cons_self
    have h2:=hb b List.mem_cons_self
    simp only [List.map_cons,Op.bytesLess,lessN,ih]
    have e1:(UInt8.ofNat (48+a) < UInt8.ofNat (48+b)) ↔ a < b:=by
      rw [UInt8.lt_iff_toNat_lt,UInt8.toNat_ofNat',UInt8.toNat_ofNat'];omega
    have e2:(UInt8.ofNat (48+a)=UInt8.ofNat (48+b)) ↔ a=b:=by
      rw [← UInt8.toNat_inj,UInt8.toNat_ofNat',UInt8.toNat_ofNat'];omega
    have e3:(UInt8.ofNat (48+a) == UInt8.ofNat (48+b))=(a == b):=by
      rw [Bool.eq_iff_iff,beq_iff_eq,beq_iff_eq];exact e2
    rw [e3,decide_eq_decide.2 e1]
def aheadN (d:Nat):Nat→Nat
  | 0=>0
  | m+1=>aheadN d m+d ^ m
def valN (d:Nat) (l:List Nat):Nat:=l.foldl (fun v x=>v * d+x) 0
def numN (d:Nat) (l:List Nat):Nat:=aheadN d l.length+valN d l
/-- All words of at most n letters,in order,as_ digits. -/
def wordsD (d:Nat):Nat→List (List Nat)
  | 0=>[[]]
  | n+1=>wordsD d n ++ wordsN d (n+1)
/-- Is it a word of a table? -/
def isD (d n:Nat) (l:List Nat):Prop:=l.length≤n∧∀ x ∈ l,x < d
theorem valN_snoc (d:Nat) (l:List Nat) (x:Nat):valN d (l ++ [x])=valN d l * d+x:=by simp [valN]
theorem range_flat (d m:Nat):(List.range m).flatMap (fun q=>(List.range d).map fun i=>q * d+i)=List.range (m * d):=by
  induction m with
  | zero=>simp
  | succ m ih=>rw [List.range_succ,List.flatMap_append,ih,Nat.succ_mul,List.range_add];simp
theorem wordsN_val (d:Nat):∀ n,(wordsN d n).map (valN d)=List.range (d ^ n)
  | 0=>rfl
  | n+1=>by
    rw [Nat.pow_succ,← range_flat,← wordsN_val d n,List.flatMap_map]
    simp only [wordsN,List.map_flatMap,List.map_map]
    congr 1;funext w
    apply List.map_congr_left
    intro i _
    simp [valN_snoc]
theorem wordsN_len (d n:Nat):(wordsN d n).length=d ^ n:=by
  have:=congrArg List.length (wordsN_val d n)
  simpa using this
theorem wordsD_num (d:Nat):∀ n,(wordsD d n).map (numN d)=List.range (aheadN d (n+1))
  | 0=>by simp [wordsD,numN,aheadN,valN]
  | n+1=>by
    have h:(wordsN d (n+1)).map (numN d)=(List.range (d ^ (n+1))).map (aheadN d (n+1)+·):=by
      rw [← wordsN_val d (n+1),List.map_map]
      apply List.map_congr_left
      intro w hw
      simp only [Function.comp,numN,(wordsN_lt d (n+1) w hw).1]
    rw [wordsD,List.map_append,wordsD_num d n,h,show aheadN d (n+1+1)=aheadN d (n+1)+d ^ (n+1) from rfl,List.range_add]
theorem wordsD_len (d n:Nat):(wordsD d n).length=aheadN d (n+1):=by
  have:=congrArg List.length (wordsD_num d n)
  simpa using this
theorem wordsD_at (d n i:Nat) (h:i < (wordsD d n).length):numN d (wordsD d n)[i]=i:=by
  have h1:((wordsD d n).map (numN d))[i]?=some i:=by rw [wordsD_num,List.getElem?_range (by rw [← wordsD_len];exact h)]
  rw [List.getElem?_map,List.getElem?_eq_getElem h,Option.map_some] at h1
  exact Option.some.inj h1
theorem wordsN_mem (d:Nat):∀ l:List Nat,(∀ x ∈ l,x < d)→l ∈ wordsN d l.length:=by
  intro l
  induction hn:l.length generalizing l with
  | zero=>intro _;rw [List.length_eq_zero_iff.1 hn];simp [wordsN]
  | succ n ih =>
    intro h
    have hne:l ≠ []:=by intro e;rw [e] at hn;simp at hn
    have e:=List.dropLast_concat_getLast hne
    have hl:l.dropLast.length=n:=by simp [hn]
    simp only [wordsN,List.mem_flatMap,List.mem_map,List.mem_range]
    exact ⟨l.dropLast,ih _ hl (fun x hx=>h x ((List.dropLast_sublist l).subset hx)),l.getLast hne,h _ (List.getLast_mem hne),e⟩
theorem wordsD_mem (d n:Nat) (l:List Nat):l ∈ wordsD d n ↔ isD d n l:=by
  induction n with
  | zero =>
    simp only [wordsD,List.mem_singleton,isD]
    constructor
    · rintro rfl;simp
    · rintro ⟨h,_⟩;exact List.length_eq_zero_iff.1 (by omega)
  | succ n ih =>
    simp only [wordsD,List.mem_append,ih,isD]
    constructor
    · rintro (⟨h1,h2⟩|h)
      · exact ⟨by omega,h2⟩
      · obtain ⟨h1,h2⟩:=wordsN_lt d (n+1) l h;exact ⟨by omega,h2⟩
    · rintro ⟨h1,h2⟩
      by_cases c:l.length≤n
      · exact .inl ⟨c,h2⟩
      · right;have:=wordsN_mem d l h2;rwa [show l.length=n+1 by omega] at this
theorem wordsD_is (d n:Nat) (l:List Nat) (h:isD d n l):(wordsD d n)[numN d l]?=some l:=by
  obtain ⟨i,hi,e⟩:=List.mem_iff_getElem.1 ((wordsD_mem d n l).2 h)
  have:=wordsD_at d n i hi
  rw [e] at this
  rw [this,List.getElem?_eq_getElem hi,e]
theorem numN_lt (d n:Nat) (l:List Nat) (h:isD d n l):numN d l < (wordsD d n).length:=(List.getElem?_eq_some_iff.1 (wordsD_is d n l h)).1
theorem isD_take {d n:Nat} {l:List Nat} (h:isD d n l) (i:Nat):isD d n (l.take i):=⟨by rw [List.length_take];have:=h.1;omega,fun x hx=>h.2 x (List.mem_of_mem_take hx)⟩
theorem isD_drop {d n:Nat} {l:List Nat} (h:isD d n l) (i:Nat):isD d n (l.drop i):=⟨by rw [List.length_drop];have:=h.1;omega,fun x hx=>h.2 x (List.mem_of_mem_drop hx)⟩
/-- All words,as_ texts. -/
def wordsA (d n:Nat):List ByteArray:=(wordsD d n).map encW
theorem wordsA_len (d n:Nat):(wordsA d n).length=(wordsD d n).length:=by simp [wordsA]
theorem aheadN_le (d:Nat) (hd:d≤3) (n:Nat):aheadN d n≤3 ^ n:=by
  induction n with
  | zero=>simp [aheadN]
  | succ n ih =>
    have:d ^ n≤3 ^ n:=Nat.pow_le_pow_left hd n
    simp only [aheadN,Nat.pow_succ];omega
theorem wordsD_small (d n:Nat) (hd:d≤3) (hn:n≤8):(wordsD d n).length≤19683:=by
  rw [wordsD_len]
  calc aheadN d (n+1)≤3 ^ (n+1):=aheadN_le d hd _
    _≤3 ^ 9:=Nat.pow_le_pow_right (by omega) (by omega)
    _=19683:=by decide
theorem all_loop (d:Nat) (hd:d≤3) (n:Nat) (hn:n≤8) (m:Nat):∀ i:Nat,i+m=n+1→Ev (fun k=>qn1_.l0 k (d:Int) ((if i=0 then [] else wordsA d (i - 1))) ((n+1:Nat):Int) (i:Int)) (wordsA d n):=by
  induction m with
  | zero =>
    intro i hi
    refine Ev.step (f:=fun _=>some (wordsA d n)) (fun k=>?_) (Ev.now _)
    simp only [qn1_.l0]
    rw [if_neg (by omega),if_neg (by omega),show i - 1=n by omega]
  | succ m ih =>
    intro i hi
    have hw:=impl_words_are d i hd (by omega)
    have h2:=ih (i+1) (by omega)
    rw [if_neg (by omega),Nat.add_sub_cancel] at h2
    have hl:(if i=0 then [] else wordsA d (i - 1)).length≤19683:=by
      split
      · simp
      · rw [wordsA_len];exact wordsD_small d _ hd (by omega)
    have hb:=wordsL_bound (d:=d) (n:=i) hd (by omega)
    have e:(if i=0 then [] else wordsA d (i - 1)) ++ wordsL d i=wordsA d i:=by
      rw [wordsL_enc]
      cases i with
      | zero=>simp [wordsA,wordsD,wordsN]
      | succ i=>rw [if_neg (by omega),Nat.add_sub_cancel];simp [wordsA,wordsD]
    rw [← e] at h2
    refine Ev.step (fun k=>?_) (Ev.bind hw (f:=fun k t=>qn1_.l0 k (d:Int) ((if i=0 then [] else wordsA d (i - 1)) ++ t) ((n+1:Nat):Int) ((i+1:Nat):Int)) h2)
    simp only [qn1_.l0]
    rw [if_pos (by omega)]
    cases hk:qy_.f k (d:Int) (i:Int) with
    | none=>rfl
    | some t =>
      simp only [Option.bind_some]
      have ht:t=wordsL d i:=by
        obtain ⟨K,hK⟩:=hw
        have h3:=at_rounds (fun k=>qy_.mono _ _ k) (Nat.le_max_left k K) hk
        have h4:=hK (max k K) (Nat.le_max_right _ _)
        exact Option.some.inj (h3.symm.trans h4)
      rw [if_pos (by rw [ht];omega),show wrap64 ((i:Int)+1)=((i+1:Nat):Int) from by unfold wrap64;omega]
theorem allWords_are (d n:Nat) (hd:d≤3) (hn:n≤8):Ev (fun k=>qn1_.f k (d:Int) (n:Int)) (wordsA d n):=by
  refine Ev.congr (fun k=>?_) (all_loop d hd n hn (n+1) 0 (by omega))
  unfold qn1_.f
  rw [show wrap64 ((n:Int)+1)=((n+1:Nat):Int) from by unfold wrap64;omega];rfl
theorem enc_at (l:List Nat) (hl:∀ x ∈ l,x < 100) (i:Nat) (h:i < l.length):bt (encW l) (i:Int)=48+(l[i]:Int):=by
  have hs:i < (encW l).size:=by rw [encW_size];exact h
  unfold bt
  rw [dif_pos (by simpa using hs)]
  have:=hl l[i] (List.getElem_mem h)
  simp only [Int.toNat_natCast]
  show (((encW l).data[i]'hs).toNat:Int)=_
  simp only [encW,List.getElem_toArray,List.getElem_map,UInt8.toNat_ofNat']
  omega
theorem val_bound (d:Nat) (hd:d≤3) (l:List Nat) (h:∀ x ∈ l,x < d):valN d l < d ^ l.length:=by
  have h1:=wordsN_mem d l h
  have h2:valN d l ∈ (wordsN d l.length).map (valN d):=List.mem_map_of_mem h1
  rw [wordsN_val] at h2
  exact List.mem_range.1 h2
theorem number_loop (d:Nat) (hd:d≤3) (l:List Nat) (h:∀ x ∈ l,x < d) (hl:l.length≤20) (m:Nat):∀ i:Nat,i+m=l.length →
    Ev (fun k=>qt1_.l0 k (d:Int) (encW l) (aheadN d i:Int) (valN d (l.take i):Int) ((d ^ i:Nat):Int) ((encW l).size:Int) (i:Int)) (numN d l:Int):=by
  have p20:∀ i,i≤20→d ^ i≤3486784401:=fun i hi=>calc d ^ i≤3 ^ i:=Nat.pow_le_pow_left hd i
    _≤3 ^ 20:=Nat.pow_le_pow_right (by omega) hi
    _=3486784401:=by decide
  have a20:∀ i,i≤20→aheadN d i≤3486784401:=fun i hi=>calc aheadN d i≤3 ^ i:=aheadN_le d hd i
    _≤3 ^ 20:=Nat.pow_le_pow_right (by omega) hi
    _=3486784401:=by decide
  have v20:∀ i,i≤l.length→valN d (l.take i)≤3486784401:=fun i hi=>by
    have h1:=val_bound d hd (l.take i) (fun x hx=>h x (List.mem_of_mem_take hx))
    have h2:=p20 (l.take i).length (by rw [List.length_take];omega)
    omega
  induction m with
  | zero =>
    intro i hi
    have hi':i=l.length:=by omega
    subst hi'
    refine Ev.step (f:=fun _=>some (numN d l:Int)) (fun k=>?_) (Ev.now _)
    simp only [qt1_.l0]
    have:=a20 l.length hl
    have:=v20 l.length (Nat.le_refl _)
    rw [if_neg (by rw [encW_size];omega),w64 (by omega) (by omega),List.take_length]
    simp [numN]
  | succ m ih =>
    intro i hi
    have hlt:i < l.length:=by omega
    refine Ev.step (fun k=>?_) (ih (i+1) (by omega))
    have hx:=h l[i] (List.getElem_mem hlt)
    have b:=enc_at l (fun x hx=>by have:=h x hx;omega) i hlt
    simp only [qt1_.l0]
    rw [if_pos (by rw [encW_size];omega),if_pos (by omega),if_pos (by rw [encW_size];omega),b]
    have q1:=a20 i (by omega)
    have q2:=p20 i (by omega)
    have q3:=v20 i (by omega)
    have q4:=a20 (i+1) (by omega)
    have q5:=p20 (i+1) (by omega)
    have q6:=v20 (i+1) (by omega)
    have e1:valN d (l.take (i+1))=valN d (l.take i) * d+l[i]:=by rw [List.take_succ_eq_append_getElem hlt,valN_snoc]
    have e2:(48+(l[i]:Int) - 48) % 256=(l[i]:Int):=by omega
    have e3:((valN d (l.take i):Int)) * (d:Int)=((valN d (l.take i) * d:Nat):Int):=by simp
    have e4:((d ^ i:Nat):Int) * (d:Int)=((d ^ (i+1):Nat):Int):=by rw [Nat.pow_succ];simp
    have e5:(aheadN d i:Int)+((d ^ i:Nat):Int)=(aheadN d (i+1):Int):=by simp [aheadN]
    rw [e2,e3,e4,e5,w64 (x:=(aheadN d (i+1):Int)) (by omega) (by omega),w64 (x:=((valN d (l.take i) * d:Nat):Int)) (by omega) (by omega),w64 (x:=((d ^ (i+1):Nat):Int)) (by omega) (by omega)]
    rw [w64 (by omega) (by omega),show ((valN d (l.take i) * d:Nat):Int)+(l[i]:Int)=(valN d (l.take (i+1)):Int) by rw [e1];simp,show wrap64 ((i:Int)+1)=((i+1:Nat):Int) from by unfold wrap64;omega]
theorem number_is (d:Nat) (hd:d≤3) (l:List Nat) (h:∀ x ∈ l,x < d) (hl:l.length≤20):Ev (fun k=>qt1_.f k (d:Int) (encW l)) (numN d l:Int):=by
  refine Ev.congr (fun k=>?_) (number_loop d hd l h hl l.length 0 (by omega))
  rfl
theorem extract_enc (l:List Nat) (i j:Nat) (h:i≤j):(encW l).extract i j=encW ((l.take j).drop i):=by
  apply ByteArray.ext
  simp only [encW,ByteArray.data_extract,List.extract_toArray]
  congr 1
  rw [List.extract_eq_take_drop,List.map_drop,List.map_take,List.drop_take]
end Go.Proofs.Ytaiefdhenikiiaa.Base
namespace Go.Proofs.Ytaiefdhenikiiaa.Base
open Go.RowKit Go.Proofs.YtaiefdhenikiiaaW.PrintWords Go.Proofs.YtaiefdhenikiiaaW.PrintLast Go.Proofs.YtaiefdhenikiiaaW.PrintMore
set_option linter.unusedVariables false
set_option linter.unusedSimpArgs false
/-- The sizes of a table. -/
structure Sz (d n:Nat):Prop where
  d1:1≤d
  d3:d≤3
  n8:n≤8
structure Tb.Ok (t:Tb):Prop where
  sz:Sz t.d t.n
  len:t.vs.length=(wordsD t.d t.n).length
  fr:∀ x ∈ t.vs,okF x
def Tb.val (t:Tb) (l:List Nat):S77:=t.vs.getD (numN t.d l) zeroF
def Tb.addW (t:Tb) (l:List Nat) (a:S77):Tb:=t.add (numN t.d l) a
def Tb.addT (t:Tb) (l:List Nat) (a b:S77):Tb:=(t.chk (timesM a b).2).addW l (chkF (timesM a b).1 (timesM a b).2)
section
variable {t:Tb}
theorem Tb.Ok.lt (h:t.Ok) {l:List Nat} (hl:isD t.d t.n l):numN t.d l < t.vs.length:=by rw [h.len];exact numN_lt _ _ _ hl
theorem Tb.Ok.le20 (h:t.Ok) {l:List Nat} (hl:isD t.d t.n l):l.length≤20:=by have:=hl.1;have:=h.sz.n8;omega
theorem Tb.val_eq (t:Tb) {l:List Nat} (h:numN t.d l < t.vs.length):t.val l=t.vs[numN t.d l]:=by unfold Tb.val;rw [List.getD_eq_getElem?_getD,List.getElem?_eq_getElem h,Option.getD_some]
theorem Tb.Ok.val (h:t.Ok) (l:List Nat):okF (t.val l):=by
  unfold Tb.val
  rw [List.getD_eq_getElem?_getD]
  cases hx:t.vs[numN t.d l]? with
  | none=>exact zero_okF
  | some x=>exact h.fr x (List.mem_of_getElem? hx)
theorem chkF_ok {p:S77 × Bool} (h:p.2=true→okF p.1):okF (chkF p.1 p.2):=by
  unfold chkF;split
  · next c=>exact h c
  · exact zero_okF
theorem Tb.Ok.chk (h:t.Ok) (b:Bool):(t.chk b).Ok:=⟨h.sz,h.len,h.fr⟩
theorem Tb.Ok.put (h:t.Ok) (kk:Nat) {a:S77} (ha:okF a):(t.put kk a).Ok:=⟨h.sz,by simp only [Tb.put,List.length_set];exact h.len,fun x hx=>by
  rcases List.mem_or_eq_of_mem_set hx with hx|rfl
  · exact h.fr x hx
  · exact ha⟩
theorem Tb.Ok.add (h:t.Ok) (kk:Nat) (a:S77):(t.add kk a).Ok:=(h.chk _).put kk (chkF_ok fun hq=>plus_okF hq)
theorem Tb.Ok.addW (h:t.Ok) (l:List Nat) (a:S77):(t.addW l a).Ok:=h.add _ a
theorem Tb.Ok.addT (h:t.Ok) (l:List Nat) (a b:S77):(t.addT l a b).Ok:=(h.chk _).addW l _
end
theorem atx' (w:World) (g h:Nat) (t:Tb) (H:TabAt w g h t) (hv:t.Ok) (l:List Nat) (hl:isD t.d t.n l) :
    Calls Try.prog 176 #[.pointer (some ⟨g,0,none⟩),.string (encW l)] w fun e w'=>e=.returned (.agg #[.int .i64 (t.val l).f0,.int .i64 (t.val l).f1])∧∃ m,w'=(w.alloc (.cells #[.int .i64 (t.val l).f0,.int .i64 (t.val l).f1] 77)).drewN m:=by
  obtain ⟨k,hk⟩:=(number_is t.d hv.sz.d3 l hl.2 (hv.le20 hl)).rounds
  have hlt:=hv.lt hl
  rw [Tb.val_eq t hlt]
  exact at_x k w g h t H (encW l) _ hlt hk
theorem add' (w:World) (g h:Nat) (t:Tb) (H:TabAt w g h t) (hv:t.Ok) (l:List Nat) (hl:isD t.d t.n l) (a:S77) (ha:okF a) :
    Calls Try.prog 159 #[.pointer (some ⟨g,0,none⟩),.string (encW l),.agg #[.int .i64 a.f0,.int .i64 a.f1]] w fun e w'=>e=.returned (.tuple #[])∧TabAt w' g h (t.addW l a)∧Mut w w' (fun k=>k=g ∨ k=h):=by
  have hlt:=hv.lt hl
  obtain ⟨k1,h1⟩:=number_is t.d hv.sz.d3 l hl.2 (hv.le20 hl)
  obtain ⟨k2,h2⟩:=plus_is (a:=t.vs[numN t.d l]) (b:=a) (hv.fr _ (List.getElem_mem hlt)) ha
  exact add_ (max k1 k2) w g h t H (encW l) a _ hlt (h1 _ (Nat.le_max_left _ _)) (h2 _ (Nat.le_max_right _ _))
set_option maxHeartbeats 8000000 in
set_option maxRecDepth 100000 in
theorem addTimes' (w:World) (g h:Nat) (t:Tb) (H:TabAt w g h t) (hv:t.Ok) (l:List Nat) (hl:isD t.d t.n l) (a b:S77) (ha:okF a) (hb:okF b) :
    Calls Try.prog 200 #[.pointer (some ⟨g,0,none⟩),.string (encW l),.agg #[.int .i64 a.f0,.int .i64 a.f1],.agg #[.int .i64 b.f0,.int .i64 b.f1]] w fun e w'=>e=.returned (.tuple #[])∧TabAt w' g h (t.addT l a b)∧Mut w w' (fun k=>k=g ∨ k=h):=by
  have hu:=Try.underlying77
  obtain ⟨k,hk⟩:=(times_is ha hb).rounds
  have HB:=Aside0.mk H
  have HV:=Aside0.mk hv
  have HL:=Aside0.mk hl
  have HK:=Aside0.mk hk
  clear H hv hl ha hb hk
  go_enter Try.func200,Try.ntmps200
  go_wp2_with (first
    | (go_at_call 128;refine (qy1_.calls k _ _ _ _ _ _ _ _ HK.out).mono ?_;rintro e w2 ⟨rfl,hb⟩;have HT:=Aside0.mk (((HB.out.alloc _).alloc _).below hb);have M:=Aside0.mk (Mut.call (S:=fun k=>k=g ∨ k=h) (((Mut.refl w _).alloc _).alloc _) hb);clear hb)
    | (go_at_call 127;refine (check_ _ g h t HT.out (timesM a b).1 (timesM a b).2).mono ?_;rintro e w3 ⟨rfl,T3,m3⟩;have M3:=Aside0.mk (M.out.then_ m3 (fun _ _ h=>Or.inl h));have HT3:=Aside0.mk T3;clear T3 m3)
    | (go_at_call 159;refine (add' _ g h _ HT3.out (HV.out.chk _) l HL.out (chkF (timesM a b).1 (timesM a b).2) (chkF_ok fun hq=>times_okF hq)).mono ?_;rintro e w4 ⟨rfl,T4,m4⟩;have M4:=Aside0.mk (M3.out.then_ m4 (fun _ _ h=>h));have HT4:=Aside0.mk T4;clear T4 m4))
  go_returns
  exact ⟨rfl,HT4.out,M4.out⟩
end Go.Proofs.Ytaiefdhenikiiaa.Base
namespace Go.Proofs.Ytaiefdhenikiiaa.Base
open Go.RowKit Go.Proofs.YtaiefdhenikiiaaW.PrintWords Go.Proofs.YtaiefdhenikiiaaW.PrintLast Go.Proofs.YtaiefdhenikiiaaW.PrintMore
set_option linter.unusedVariables false
set_option linter.unusedSimpArgs false
/-- Is it a Lyndon word? -/
def lynN (l:List Nat):Bool:=(List.range (l.length - 1)).all (fun j=>lessN l (l.drop (j+1))) && !l.isEmpty
theorem drop_enc (l:List Nat) (i:Nat):((encW l).extract i (encW l).size).toList=(l.drop i).map fun i=>UInt8.ofNat (48+i):=by
  rw [ByteArray.toList_eq,ByteArray.data_extract,Array.toList_extract,encW_size]
  simp only [encW,List.extract_eq_take_drop,List.map_drop]
  exact List.take_of_length_le (by simp)
theorem range_all (p:Nat→Bool) (n:Nat):(List.range' 1 n).all p=(List.range n).all (fun j=>p (j+1)):=by
  rw [List.range'_eq_map_range,List.all_map]
  congr 1;funext j;simp [Nat.add_comm]
theorem ilyn_loop (l:List Nat) (hl:∀ i ∈ l,i < 100) (hs:l.length≤1000000) (h0:l ≠ []) (m:Nat):∀ j:Nat,1≤j→j+m=l.length →
    Ev (fun k=>qb1_.l0 k (encW l) (j:Int)) ((List.range' j m).all (fun q=>lessN l (l.drop q))):=by
  induction m with
  | zero =>
    intro j h1 hj
    refine Ev.step (f:=fun _=>some true) (fun k=>?_) (Ev.now _)
    simp only [qb1_.l0]
    rw [if_neg (by rw [encW_size];omega)]
    rw [encW_list]
    congr 1
    simpa using h0
  | succ m ih =>
    intro j h1 hj
    have hd:∀ i ∈ l.drop j,i < 100:=fun i hi=>hl i (List.mem_of_mem_drop hi)
    have hb:Op.bytesLess (encW l).toList ((encW l).extract (j:Int).toNat (encW l).size).toList=lessN l (l.drop j):=by
      rw [Int.toNat_natCast,encW_list,drop_enc,less_enc l (l.drop j) hl hd]
    rw [List.range'_succ,List.all_cons]
    by_cases c:lessN l (l.drop j)=true
    · rw [c,Bool.true_and]
      refine Ev.step (fun k=>?_) (ih (j+1) (by omega) (by omega))
      simp only [qb1_.l0]
      rw [if_pos (by rw [encW_size];omega),if_pos (by omega),if_pos (by rw [encW_size];omega),hb,if_pos c,show wrap64 ((j:Int)+1)=((j+1:Nat):Int) from by unfold wrap64;omega]
    · have c':lessN l (l.drop j)=false:=by simpa using c
      rw [c',Bool.false_and]
      refine Ev.step (f:=fun _=>some false) (fun k=>?_) (Ev.now _)
      simp only [qb1_.l0]
      rw [if_pos (by rw [encW_size];omega),if_pos (by omega),if_pos (by rw [encW_size];omega),hb,if_neg c]
theorem lyn_is (l:List Nat) (hl:∀ i ∈ l,i < 100) (hs:l.length≤1000000):Ev (fun k=>qb1_.f k (encW l)) (lynN l):=by
  unfold lynN
  cases l with
  | nil =>
    refine Ev.step (f:=fun _=>some false) (fun k=>?_) (Ev.now _)
    unfold qb1_.f
    simp only [qb1_.l0]
    rw [if_neg (by rw [encW_size];simp)]
    rw [encW_list];rfl
  | cons a x =>
    have h:=ilyn_loop (a :: x) hl hs (by simp) x.length 1 (by omega) (by simp;omega)
    rw [range_all] at h
    have e:(((List.range ((a :: x).length - 1)).all fun j=>lessN (a :: x) ((a :: x).drop (j+1))) && !(a :: x).isEmpty)=(List.range x.length).all fun j=>lessN (a :: x) ((a :: x).drop (j+1)):=by simp
    rw [e]
    exact h
theorem lyn_one (l:List Nat) (h:l.length=1):lynN l=true:=by
  match l,h with
  | [a],_=>rfl
/-- The first place from i on whose rest is a Lyndon word. -/
def cutFrom (l:List Nat):Nat→Nat→Nat
  | i,0=>i
  | i,m+1=>if lynN (l.drop i)=true then i else cutFrom l (i+1) m
def cutI (l:List Nat):Nat:=cutFrom l 1 (l.length - 2)
theorem cutFrom_le (l:List Nat) (m:Nat):∀ i,i≤cutFrom l i m∧cutFrom l i m≤i+m:=by
  induction m with
  | zero=>intro i;simp [cutFrom]
  | succ m ih =>
    intro i
    unfold cutFrom
    split
    · omega
    · have:=ih (i+1);omega
theorem cutI_lt {l:List Nat} (h:2≤l.length):1≤cutI l∧cutI l < l.length:=by
  have:=cutFrom_le l (l.length - 2) 1
  unfold cutI;omega
theorem extract_drop (l:List Nat) (i:Nat):(encW l).extract i (encW l).size=encW (l.drop i):=by
  by_cases h:i≤l.length
  · rw [encW_size,extract_enc l i _ h,List.take_length]
  · rw [List.drop_eq_nil_of_le (by omega)]
    apply ByteArray.ext
    simp only [encW,ByteArray.data_extract]
    apply Array.ext'
    simp
    omega
theorem cut_loop (l:List Nat) (hl:∀ i ∈ l,i < 100) (hs:l.length≤1000000) (m:Nat):∀ i,1≤i→i+m+1=l.length→Ev (fun k=>qg2_.l0 k (encW l) (i:Int)) (encW (l.take (cutFrom l i m)),encW (l.drop (cutFrom l i m))):=by
  induction m with
  | zero =>
    intro i h1 hi
    have hy:=lyn_is (l.drop i) (fun x hx=>hl x (List.mem_of_mem_drop hx)) (by rw [List.length_drop];omega)
    rw [lyn_one _ (by rw [List.length_drop];omega)] at hy
    refine Ev.step (f:=fun k=>(qb1_.f k (encW (l.drop i))).bind fun t=>if t=true then some (encW (l.take i),encW (l.drop i)) else qg2_.l0 k (encW l) ((i+1:Nat):Int)) (fun k=>?_) (Ev.bind hy (f:=fun k t=>if t=true then some (encW (l.take i),encW (l.drop i)) else qg2_.l0 k (encW l) ((i+1:Nat):Int)) ?_)
    · simp only [qg2_.l0]
      rw [if_pos (by omega),if_pos (by rw [encW_size];omega),Int.toNat_natCast,extract_drop,extract_enc l 0 i (Nat.zero_le _),List.drop_zero,show wrap64 ((i:Int)+1)=((i+1:Nat):Int) from by unfold wrap64;omega]
    · simp only [if_true];exact Ev.now _
  | succ m ih =>
    intro i h1 hi
    have hy:=lyn_is (l.drop i) (fun x hx=>hl x (List.mem_of_mem_drop hx)) (by rw [List.length_drop];omega)
    refine Ev.step (f:=fun k=>(qb1_.f k (encW (l.drop i))).bind fun t=>if t=true then some (encW (l.take i),encW (l.drop i)) else qg2_.l0 k (encW l) ((i+1:Nat):Int)) (fun k=>?_) (Ev.bind hy (f:=fun k t=>if t=true then some (encW (l.take i),encW (l.drop i)) else qg2_.l0 k (encW l) ((i+1:Nat):Int)) ?_)
    · simp only [qg2_.l0]
      rw [if_pos (by omega),if_pos (by rw [encW_size];omega),Int.toNat_natCast,extract_drop,extract_enc l 0 i (Nat.zero_le _),List.drop_zero,show wrap64 ((i:Int)+1)=((i+1:Nat):Int) from by unfold wrap64;omega]
    · unfold cutFrom
      by_cases c:lynN (l.drop i)=true
      · simp only [c,if_true];exact Ev.now _
      · have c':lynN (l.drop i)=false:=by simpa using c
        simp only [c',if_neg (show ¬ (false=true) by decide)]
        exact ih (i+1) (by omega) (by omega)
theorem cut_is (l:List Nat) (hl:∀ i ∈ l,i < 100) (hs:l.length≤1000000) (h2:2≤l.length):Ev (fun k=>qg2_.f k (encW l)) (encW (l.take (cutI l)),encW (l.drop (cutI l))):=by
  have:=cut_loop l hl hs (l.length - 2) 1 (by omega) (by omega)
  exact this
end Go.Proofs.Ytaiefdhenikiiaa.Base
namespace Go.Proofs.Ytaiefdhenikiiaa.Base
open Go.RowKit Go.Proofs.YtaiefdhenikiiaaW.PrintWords Go.Proofs.YtaiefdhenikiiaaW.PrintLast Go.Proofs.YtaiefdhenikiiaaW.PrintMore
attribute [local go_sem] max2_int qo1_ max_two min_two max_three min_three max_four min_four Go.Proofs.YtaiefdhenikiiaaZ.qx_   -- for this text's walks alone
set_option linter.unusedVariables false
set_option linter.unusedSimpArgs false
def qz1_.f (k:Nat) (a0_0:Int) (a0_1:Int) (l0_2:List (S79)) (a1:Int):Option (Int × (List (S79))):=(qj1_.f k l0_2 a1).bind fun bt261=>(some (bt261.1,bt261.2))
theorem qz1_.mono:∀ a0 a1 a2 a3 k,LeO (qz1_.f k a0 a1 a2 a3) (qz1_.f (k+1) a0 a1 a2 a3):=by
 intro a0 a1 a2 a3 k
 unfold qz1_.f
 repeat' first
   | (with_reducible exact qj1_.mono _ _ _)
   | (with_reducible exact LeO.refl _)
   | (with_reducible exact LeO.none _)
   | (with_reducible refine LeO.ite ?_ ?_)
   | (with_reducible refine LeO.bind ?_ (fun _=>?_))
   | exact qj1_.mono _ _ _
   | exact LeO.none _
   | refine LeO.ite ?_ ?_
   | refine LeO.bind ?_ (fun _=>?_)
set_option maxHeartbeats 8000000 in
set_option maxRecDepth 100000 in
theorem qz1_.calls (k:Nat) (a0_0:Int) (a0_1:Int) (P0_2_:Nat→Prop) (u9000_:Value) (l0_2:List (S79)) (a1:Int) (r1:Int) (r2:List (S79)) (w0 w:World) (hB:Below w0.heap.size w0 w) (ho0_2:Kd.R k79 79 w w0.heap.size P0_2_ u9000_ l0_2) (h:qz1_.f k a0_0 a0_1 l0_2 a1=some (r1,r2)) :
  Calls Try.prog 34 #[.agg #[.int .i64 a0_0,.int .i64 a0_1,u9000_],.int .i64 a1] w fun e w'=>e=.returned (.int .i64 r1)∧Kd.R k79 79 w' w0.heap.size (fun k_=>(P0_2_ k_ ∨ w.heap.size≤k_)) u9000_ r2∧Below w0.heap.size w0 w'∧Kept w w' (fun k_=>P0_2_ k_):=by
 have hu38:=Try.underlying38
 have HO0_2:=aK (show Kd.R k79 79 w w0.heap.size (fun k_=>(P0_2_ k_ ∨ w.heap.size≤k_)) u9000_ l0_2 from Kd.R_mono ho0_2 (fun k_ hk=>(.inl hk)))
 have HK:=aK (Kept.refl w (fun k_=>P0_2_ k_))
 have HW0:=aK hB.size
 have HB:=aK hB
 clear hB
 have H:((qj1_.f k l0_2 a1).bind fun bt261=>(some (bt261.1,bt261.2)))=some (r1,r2):=h
 clear h
 replace H:=Option.bind_eq_some_iff.mp H
 obtain ⟨⟨t261,t262⟩,A30,H⟩:=H
 replace H:(some (t261,t262))=some (r1,r2):=H
 have A3:=aK A30
 clear A30
 simp only [Option.some.injEq,Prod.mk.injEq] at H
 obtain ⟨rfl,rfl⟩:=H
 obtain ⟨Ao4,co4,eo4⟩:=Kd.qf2_ HO0_2.out
 subst eo4
 go_enter Try.func34,Try.ntmps34
 go_wp2_with (first|((with_reducible refine qu_ (N:=2) rfl ?_);refine qr_ ?hg (N:=2) ?hd (cs:=#[.int .i64 a0_0,.int .i64 a0_1,.slice Ao4 l0_2.length co4]) (t:=38) ?hr ?_;(case hd=>rfl);(case hg=>rfl);(case hr=>first|(go_simp;done)|(go_simp;rfl));intro gb260 hg w5 hbox hb;have n0_:=aK (Kd.qm2_ (by (with_reducible repeat (first|apply Kd.qp1_|apply Kd.qu1_|apply Kd.R_drew));exact HO0_2.out) hb);have n1_:=aK (Kept.below (S:=(fun k_=>P0_2_ k_)) (by repeat (first|(with_reducible first|exact HK.out|apply Kept.alloc|apply Kept.drewN|apply Kept.drew)|exact HK.out)) hb);have n2_:=aK (qj_ (by repeat (first|(with_reducible first|exact HB.out|apply qb_|apply qa_|apply qc_)|exact HB.out)) hb);have n3_:=aK (hbox);have n4_:=aK ((by rw [hg];exact (by first|exact HK.out.1|exact (show Kept w _ (fun k_=>P0_2_ k_) from by repeat (first|(with_reducible first|exact HK.out|apply Kept.alloc|apply Kept.drewN|apply Kept.drew)|exact HK.out)).1):w.heap.size≤gb260));have n5_:=aK ((by rw [hg];exact (qk_ (by repeat (first|(with_reducible first|exact HB.out|apply qb_|apply qa_|apply qc_)|exact HB.out))):w0.heap.size≤gb260));clear HO0_2;clear HK;clear HB;have HO0_2:=n0_;have HK:=n1_;have HB:=n2_;have BK260:=n3_;have GW260:=n4_;have GE260:=n5_;clear n0_ n1_ n2_ n3_ n4_ n5_;clear hb hbox hg;have hcz6_0:w5.cell? ⟨gb260,0,none⟩=some (.int .i64 a0_0):=(qg_ BK260.out 0).trans rfl;have hcz6_1:w5.cell? ⟨gb260,1,none⟩=some (.int .i64 a0_1):=(qg_ BK260.out 1).trans rfl;have hcz6_2:w5.cell? ⟨gb260,2,none⟩=some (.slice Ao4 l0_2.length co4):=(qg_ BK260.out 2).trans rfl;have hfz6_0:=qd_ BK260.out 0;have hfz6_1:=qd_ BK260.out 1;have hfz6_2:=qd_ BK260.out 2)|((with_reducible refine qa1_ (f:=26) rfl ?_);refine goesL_ (some 8) rfl rfl Try.func26 (by kernel_rfl) rfl #[.slice Ao4 l0_2.length co4,.int .i64 a1] rfl (by (try simp only [List.map_toArray,List.map_cons,List.map_nil]);first|done|rfl|(simp only [List.length_drop,List.length_take];rfl)) ?_;(with_reducible refine (qj1_.calls k (fun k_=>some k_=(.slice Ao4 l0_2.length co4:Value).ownBlock) (.slice Ao4 l0_2.length co4) l0_2 a1 t261 t262 w0 _ ?side1 ?side2 A3.out).mono ?_);(case side1=>repeat (first|(with_reducible first|exact HB.out|apply qb_|apply qa_|apply qc_|refine qh_ ?_ GE260.out)|exact HB.out));(case side2=>exact Kd.R_tight rfl HO0_2.out);rintro e w7 ⟨rfl,hy0,hb,hkp⟩;refine ⟨_,rfl,?_⟩;have n0_:=aK (Kd.R_reok rfl hy0 (fun k_ e_=>HO0_2.out.1 k_ e_));have n1_:=aK (blk_kept (by (with_reducible repeat (first|refine qf_ ?_ _|refine qi_ ?_|refine qe_ ?_ _));exact BK260.out) hkp (fun hs_=>(fun e_=>(Kd.R_ne HO0_2.out BK260.out (by decide)) e_) hs_));have n2_:=aK (Kept.then_ (S:=(fun k_=>P0_2_ k_)) (by repeat (first|(with_reducible first|exact HK.out|apply Kept.alloc|apply Kept.drewN|apply Kept.drew|refine Kept.setCell ?_ (.inr GW260.out) _)|exact HK.out)) hkp (fun k_ hs_=>(fun e_=>(HO0_2.out.1 k_ e_.symm)) hs_));have n3_:=aK (hb);clear HO0_2;clear BK260;clear HK;clear HB;have HO0_2:=n0_;have BK260:=n1_;have HK:=n2_;have HB:=n3_;clear n0_ n1_ n2_ n3_;(try clear hb);(try clear hkp);(try clear hy0)))
 go_ret
 exact ⟨by first|rfl|(simp [qo_,qn_] <;> rfl)|(simp [*,qo_,qn_] <;> rfl),by (with_reducible repeat (first|apply Kd.qp1_|apply Kd.qu1_|apply Kd.R_drew));exact HO0_2.out,by repeat (first|(with_reducible first|exact HB.out|apply qb_|apply qa_|apply qc_|refine qh_ ?_ GE260.out)|exact HB.out),by repeat (first|(with_reducible first|exact HK.out|apply Kept.alloc|apply Kept.drewN|apply Kept.drew|refine Kept.setCell ?_ (.inr GW260.out) _)|exact HK.out)⟩
end Go.Proofs.Ytaiefdhenikiiaa.Base
