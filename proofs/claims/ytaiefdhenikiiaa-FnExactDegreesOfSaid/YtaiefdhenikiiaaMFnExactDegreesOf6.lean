/- Texts that the proof of FnExactDegreesOf needs, part 6. No condition. -/
import Derived.Test.YtaiefdhenikiiaaMFnExactDegreesOf5
import Derived.Handy
namespace Go.Proofs.Ytaiefdhenikiiaa.Base
open Go.RowKit Go.Proofs.YtaiefdhenikiiaaW.PrintWords Go.Proofs.YtaiefdhenikiiaaW.PrintLast Go.Proofs.YtaiefdhenikiiaaW.PrintMore
set_option linter.unusedVariables false
set_option linter.unusedSimpArgs false
/-- A table. -/
structure Tb where
  d : Nat
  n : Nat
  vs : List S77
  bad : Bool
def cellsF (vs : List S77) : List Value := vs.flatMap fun x => [.int .i64 x.f0, .int .i64 x.f1]
theorem cellsF_0 (vs : List S77) : ∀ (k : Nat) (hk : k < vs.length), (cellsF vs)[2 * k]? = some (.int .i64 (vs[k].f0)) := by
  induction vs with
  | nil => intro k hk; simp at hk
  | cons x vs ih =>
    intro k hk
    cases k with
    | zero => rfl
    | succ k => have := ih k (by simpa using hk); simpa [cellsF, Nat.mul_succ] using this
theorem cellsF_1 (vs : List S77) : ∀ (k : Nat) (hk : k < vs.length), (cellsF vs)[2 * k + 1]? = some (.int .i64 (vs[k].f1)) := by
  induction vs with
  | nil => intro k hk; simp at hk
  | cons x vs ih =>
    intro k hk
    cases k with
    | zero => rfl
    | succ k => have := ih k (by simpa using hk); simpa [cellsF, Nat.mul_succ] using this
theorem cellsF_set (vs : List S77) (x : S77) : ∀ (k : Nat), k < vs.length → cellsF (vs.set k x) = ((cellsF vs).set (2 * k) (.int .i64 x.f0)).set (2 * k + 1) (.int .i64 x.f1) := by
  induction vs with
  | nil => intro k hk; simp at hk
  | cons y vs ih =>
    intro k hk
    cases k with
    | zero => rfl
    | succ k =>
      have := ih k (by simpa using hk)
      simp only [cellsF, List.set_cons_succ, List.flatMap_cons, List.cons_append, List.nil_append, Nat.mul_succ] at this ⊢
      rw [this]
/-- The table t in the blocks g (its fields) and h (its values). -/
structure TabAt (W : World) (g h : Nat) (t : Tb) : Prop where
  st : W.heap[g]? = some (.cells #[.int .i64 (t.d : Int), .int .i64 (t.n : Int), .slice (some ⟨h, 0, none⟩) t.vs.length t.vs.length, .bool t.bad] 126 (0, 0))
  vl : W.heap[h]? = some (.cells (cellsF t.vs).toArray 77 (0, 0))
section
variable {W W' w w' : World} {g h : Nat} {t : Tb}
theorem TabAt.ne (H : TabAt W g h t) : g ≠ h := blk_ne H.st H.vl (by decide)
theorem TabAt.ltg (H : TabAt W g h t) : g < W.heap.size := blk_lt H.st
theorem TabAt.lth (H : TabAt W g h t) : h < W.heap.size := blk_lt H.vl
theorem TabAt.c0 (H : TabAt W g h t) : W.cell? ⟨g, 0, none⟩ = some (.int .i64 (t.d : Int)) := by rw [blk_cell H.st]; rfl
theorem TabAt.c1 (H : TabAt W g h t) : W.cell? ⟨g, 1, none⟩ = some (.int .i64 (t.n : Int)) := by rw [blk_cell H.st]; rfl
theorem TabAt.c2 (H : TabAt W g h t) : W.cell? ⟨g, 2, none⟩ = some (.slice (some ⟨h, 0, none⟩) t.vs.length t.vs.length) := by rw [blk_cell H.st]; rfl
theorem TabAt.c3 (H : TabAt W g h t) : W.cell? ⟨g, 3, none⟩ = some (.bool t.bad) := by rw [blk_cell H.st]; rfl
theorem TabAt.v0 (H : TabAt W g h t) (k : Nat) (hk : k < t.vs.length) : W.cell? ⟨h, k * 2, none⟩ = some (.int .i64 (t.vs[k].f0)) := by
  rw [blk_cell H.vl, List.getElem?_toArray, Nat.mul_comm]; exact cellsF_0 _ k hk
theorem TabAt.v1 (H : TabAt W g h t) (k : Nat) (hk : k < t.vs.length) : W.cell? ⟨h, k * 2 + 1, none⟩ = some (.int .i64 (t.vs[k].f1)) := by
  rw [blk_cell H.vl, List.getElem?_toArray, Nat.mul_comm]; exact cellsF_1 _ k hk
theorem TabAt.below (H : TabAt W g h t) (hb : Below W.heap.size W W') : TabAt W' g h t := ⟨(hb.block g H.ltg).trans H.st, (hb.block h H.lth).trans H.vl⟩
/-- What was there is as_ it was, but for the blocks of S. -/
structure Mut (w w' : World) (S : Nat → Prop) : Prop where
  os : w'.os = w.os
  tape : w'.tape = w.tape
  output : w'.output = w.output
  size : w.heap.size ≤ w'.heap.size
  block : ∀ k, k < w.heap.size → ¬ S k → w'.heap[k]? = w.heap[k]?
theorem Mut.refl (w : World) (S : Nat → Prop) : Mut w w S := ⟨rfl, rfl, rfl, Nat.le_refl _, fun _ _ _ => rfl⟩
theorem Mut.of {S : Nat → Prop} (h : Below w.heap.size w w') : Mut w w' S := ⟨h.os, h.tape, h.output, h.size, fun k hk _ => h.block k hk⟩
theorem Mut.then_ {w'' : World} {S T : Nat → Prop} (h : Mut w w' S) (k : Mut w' w'' T) (hT : ∀ i, i < w.heap.size → T i → S i) : Mut w w'' S :=
  ⟨k.os.trans h.os, k.tape.trans h.tape, k.output.trans h.output, Nat.le_trans h.size k.size, fun i hi hn => (k.block i (Nat.lt_of_lt_of_le hi h.size) (fun hT' => hn (hT i hi hT'))).trans (h.block i hi hn)⟩
theorem Mut.below {S : Nat → Prop} {B : Nat} {w0 : World} (h : Mut w w' S) (hb : Below B w0 w) (hB : B ≤ w.heap.size) (hS : ∀ i, i < w.heap.size → S i → B ≤ i) : Below B w0 w' :=
  ⟨h.os.trans hb.os, h.tape.trans hb.tape, h.output.trans hb.output, Nat.le_trans hb.size h.size, fun k hk => (h.block k (Nat.lt_of_lt_of_le hk hB) (fun hs => absurd (hS k (Nat.lt_of_lt_of_le hk hB) hs) (by omega))).trans (hb.block k hk)⟩
theorem Mut.cell {S : Nat → Prop} (h : Mut w w' S) {a : Addr} {v : Value} (hc : w.cell? a = some v) (hS : ¬ S a.block) : w'.cell? a = some v := by
  have := h.block a.block (World.block_lt_of_cell? w a hc) hS
  unfold World.cell? at hc ⊢
  rw [this]; exact hc
theorem Mut.tab {S : Nat → Prop} (m : Mut w w' S) (H : TabAt w g h t) (hg : ¬ S g) (hh : ¬ S h) : TabAt w' g h t := ⟨(m.block g H.ltg hg).trans H.st, (m.block h H.lth hh).trans H.vl⟩
end
end Go.Proofs.Ytaiefdhenikiiaa.Base
namespace Go.Proofs.Ytaiefdhenikiiaa.Base
open Go.RowKit Go.Proofs.YtaiefdhenikiiaaW.PrintWords Go.Proofs.YtaiefdhenikiiaaW.PrintLast Go.Proofs.YtaiefdhenikiiaaW.PrintMore
set_option linter.unusedVariables false
set_option linter.unusedSimpArgs false
theorem w64 {x : Int} (h0 : -9223372036854775808 ≤ x) (h1 : x ≤ 9223372036854775807) : wrap64 x = x := by unfold wrap64; omega
/-- Is it a fraction? -/
def okF (a : S77) : Prop := 1 ≤ a.f1 ∧ a.f1 ≤ 1000000000 ∧ -1000000000 ≤ a.f0 ∧ a.f0 ≤ 1000000000 ∧ Int.gcd a.f0 a.f1 = 1
instance (a : S77) : Decidable (okF a) := by unfold okF; exact inferInstance
theorem S77.ext' {a b : S77} (h0 : a.f0 = b.f0) (h1 : a.f1 = b.f1) : a = b := by cases a; cases b; simp_all
/-- The divisor by which num / den is reduced. -/
def byM (num den : Int) : Int := if den < 0 then -(Int.gcd num den : Int) else (Int.gcd num den : Int)
/-- num / den in lowest terms, and whether it fits. -/
def redM (num den : Int) : S77 × Bool := (⟨num / byM num den, den / byM num den⟩, decide (okF ⟨num / byM num den, den / byM num den⟩))
def zeroF : S77 := ⟨0, 1⟩
def plusM (a b : S77) : S77 × Bool := redM (a.f0 * b.f1 + b.f0 * a.f1) (a.f1 * b.f1)
theorem red_okF {num den : Int} (h : (redM num den).2 = true) : okF (redM num den).1 := of_decide_eq_true h
theorem common_loop : ∀ (b a : Nat), Ev (fun k => impl_common.l0 k (a : Int) (b : Int)) ((Nat.gcd a b : Nat) : Int) := by
  intro b
  induction b using Nat.strongRecOn with
  | _ b ih =>
    intro a
    by_cases hb : b = 0
    · subst hb
      refine Ev.step (f := fun _ => some ((Nat.gcd a 0 : Nat) : Int)) (fun k => ?_) (Ev.now _)
      simp only [impl_common.l0]
      rw [if_pos (by omega)]; simp
    · have h := ih (a % b) (Nat.mod_lt _ (by omega)) b
      rw [Nat.gcd_comm, ← Nat.gcd_rec b a, Nat.gcd_comm] at h
      refine Ev.step (fun k => ?_) h
      simp only [impl_common.l0]
      rw [if_neg (by omega), ← Int.ofNat_tmod]
theorem size_is {a : Int} (h : a.natAbs ≤ 9223372036854775807) : impl_size.f a = some (a.natAbs : Int) := by
  unfold impl_size.f mx
  rw [w64 (by omega) (by omega)]
  split <;> congr 1 <;> omega
theorem common_is {a b : Int} (ha : a.natAbs ≤ 9223372036854775807) (hb : b.natAbs ≤ 9223372036854775807) : Ev (fun k => impl_common.f k a b) (Int.gcd a b : Int) := by
  refine Ev.congr (fun k => ?_) (common_loop b.natAbs a.natAbs)
  unfold impl_common.f
  rw [size_is ha, size_is hb]; rfl
theorem scommon_loop (n : Nat) : ∀ (b a : Int), b.natAbs = n → a.natAbs ≤ 9223372036854775807 → n ≤ 9223372036854775807 → Ev (fun k => spec_l01Gcd.l0 k a b) (Int.gcd a b : Int) := by
  induction n using Nat.strongRecOn with
  | _ n ih =>
    intro b a hb ha hn
    by_cases h0 : b = 0
    · subst h0
      refine Ev.step (f := fun _ => some (Int.gcd a 0 : Int)) (fun k => ?_) (Ev.now _)
      rw [spec_l01Gcd.l0, if_pos rfl, w64 (by omega) (by omega)]
      congr 1
      unfold mx
      rw [Int.gcd_zero_right]
      split <;> omega
    · have hm : (Int.tmod a b).natAbs = a.natAbs % b.natAbs := Int.natAbs_tmod a b
      have hl : a.natAbs % b.natAbs < b.natAbs := Nat.mod_lt _ (by omega)
      have hr := ih (Int.tmod a b).natAbs (by omega) (Int.tmod a b) b rfl (by omega) (by omega)
      have e : (Int.gcd b (Int.tmod a b) : Int) = (Int.gcd a b : Int) := by
        congr 1
        show Nat.gcd b.natAbs (Int.tmod a b).natAbs = Nat.gcd a.natAbs b.natAbs
        rw [hm, Nat.gcd_comm a.natAbs, Nat.gcd_rec b.natAbs a.natAbs, Nat.gcd_comm]
      rw [e] at hr
      refine Ev.step (fun k => ?_) hr
      simp only [spec_l01Gcd.l0]
      rw [if_neg h0]
theorem scommon_is {a b : Int} (ha : a.natAbs ≤ 9223372036854775807) (hb : b.natAbs ≤ 9223372036854775807) : Ev (fun k => spec_l01Gcd.f k a b) (Int.gcd a b : Int) := scommon_loop b.natAbs b a rfl ha hb
theorem sisfrac_is (a b : Int) (ha : a.natAbs ≤ 9223372036854775807) (hb : b.natAbs ≤ 9223372036854775807) : Ev (fun k => spec_l01IsFrac.f k a b) (decide (okF ⟨a, b⟩)) := by
  have hs : ∀ {c : Bool} {f : Nat → Option Bool}, (∀ k, f k = some c) → Ev f c := fun h => ⟨0, fun k _ => h k⟩
  by_cases c1 : 1 ≤ b ∧ b ≤ 1000000000
  · by_cases c2 : -1000000000 ≤ a ∧ a ≤ 1000000000
    · have h1 := Ev.bind (scommon_is ha hb) (f := fun _ t => some (t == 1)) (r := ((Int.gcd a b : Int) == 1)) (Ev.now _)
      have e : decide (okF ⟨a, b⟩) = ((Int.gcd a b : Int) == 1) := by
        simp only [okF, c1.1, c1.2, c2.1, c2.2, true_and]; rw [Bool.eq_iff_iff, decide_eq_true_iff, beq_iff_eq]; omega
      rw [e]
      refine Ev.congr (fun k => ?_) h1
      unfold spec_l01IsFrac.f spec_l01In.f
      rw [if_pos (by omega)]
      simp only [Option.bind_some]
      rw [if_pos (by simpa using c1.2), if_pos (by omega)]
      simp only [Option.bind_some]
      rw [if_pos (by simpa using c2.2)]
    · have e : decide (okF ⟨a, b⟩) = false := by
        rw [decide_eq_false_iff_not]; simp only [okF]; omega
      rw [e]
      refine hs fun k => ?_
      unfold spec_l01IsFrac.f spec_l01In.f
      rw [if_pos (by omega)]
      simp only [Option.bind_some]
      rw [if_pos (by simpa using c1.2)]
      by_cases c3 : a ≥ -1000000000
      · rw [if_pos c3]
        simp only [Option.bind_some]
        rw [if_neg (by simp; omega)]
      · rw [if_neg c3]; simp
  · have e : decide (okF ⟨a, b⟩) = false := by
      rw [decide_eq_false_iff_not]; simp only [okF]; omega
    rw [e]
    refine hs fun k => ?_
    unfold spec_l01IsFrac.f spec_l01In.f
    by_cases c3 : b ≥ 1
    · rw [if_pos c3]
      simp only [Option.bind_some]
      rw [if_neg (by simp; omega)]
    · rw [if_neg c3]; simp
theorem plus_okF {a b : S77} (h : (plusM a b).2 = true) : okF (plusM a b).1 := red_okF h
theorem zero_okF : okF zeroF := by decide
end Go.Proofs.Ytaiefdhenikiiaa.Base
namespace Go.Proofs.Ytaiefdhenikiiaa.Base
open Go.RowKit Go.Proofs.YtaiefdhenikiiaaW.PrintWords Go.Proofs.YtaiefdhenikiiaaW.PrintLast Go.Proofs.YtaiefdhenikiiaaW.PrintMore
set_option linter.unusedVariables false
set_option linter.unusedSimpArgs false
theorem drewN_set (w : World) (n : Nat) (p : Addr) (v : Value) : (w.drewN n).setCell p v = (w.setCell p v).drewN n := rfl
theorem alloc_set (w : World) (cs : Array Value) (t : TypeId) (i : Nat) (v : Value) : (w.alloc (.cells cs t)).setCell ⟨w.heap.size, i, none⟩ v = w.alloc (.cells (cs.setIfInBounds i v) t) := World.setCell_alloc_at (w := w) cs t w.heap.size i v rfl
set_option maxHeartbeats 4000000 in
theorem at_x (k : Nat) (w : World) (g h : Nat) (t : Tb) (H : TabAt w g h t) (wd : ByteArray) (kk : Nat) (hk : kk < t.vs.length) (hn : impl_number.f k (t.d : Int) wd = some (kk : Int)) :
    Calls Try.prog 176 #[.pointer (some ⟨g, 0, none⟩), .string wd] w fun e w' => e = .returned (.agg #[.int .i64 t.vs[kk].f0, .int .i64 t.vs[kk].f1]) ∧ ∃ m, w' = (w.alloc (.cells #[.int .i64 t.vs[kk].f0, .int .i64 t.vs[kk].f1] 77)).drewN m := by
  have hu := Try.underlying77
  have h0 := H.c0
  have h2 := H.c2
  have v0 := H.v0 kk hk
  have v1 := H.v1 kk hk
  have n0 := World.new_ne w _ h0
  have n1 := World.new_ne w _ v0
  go_enter Try.func176, Try.ntmps176
  go_wp2
  go_region_held3 (fun w' => w'.cell? ⟨g, 0, none⟩ = some (.int .i64 (t.d : Int)) ∧ w'.cell? ⟨g, 2, none⟩ = some (.slice (some ⟨h, 0, none⟩) t.vs.length t.vs.length) ∧ w'.cell? ⟨h, kk * 2, none⟩ = some (.int .i64 t.vs[kk].f0) ∧ w'.cell? ⟨h, kk * 2 + 1, none⟩ = some (.int .i64 t.vs[kk].f1)) (go_keep) (first | (go_at_call 166; refine (impl_number.calls k _ _ _ _ hn).mono ?_; rintro e w' ⟨rfl, ⟨nd, rfl⟩⟩))
  go_wp2
  go_returns
  refine ⟨rfl, 1 + nd, ?_⟩
  rw [drewN_set, drewN_set, alloc_set, alloc_set]
  rfl
theorem at_ (k : Nat) (w : World) (g h : Nat) (t : Tb) (H : TabAt w g h t) (wd : ByteArray) (kk : Nat) (hk : kk < t.vs.length) (hn : impl_number.f k (t.d : Int) wd = some (kk : Int)) :
    Calls Try.prog 176 #[.pointer (some ⟨g, 0, none⟩), .string wd] w fun e w' => e = .returned (.agg #[.int .i64 t.vs[kk].f0, .int .i64 t.vs[kk].f1]) ∧ Below w.heap.size w w' := by
  refine (at_x k w g h t H wd kk hk hn).mono ?_
  rintro e w' ⟨rfl, m, rfl⟩
  exact ⟨rfl, pw_below_drewN (below_alloc (Below.refl _ _) _) _⟩
theorem new_at {W : World} {cs : Array Value} {e : TypeId} {i : Nat} (h : i = W.heap.size) : (W.alloc (.cells cs e)).heap[i]? = some (.cells cs e (0, 0)) := by subst h; exact blk_new W _
theorem old_at {W : World} {o x : Obj} {i : Nat} (h : W.heap[i]? = some x) : (W.alloc o).heap[i]? = some x := (heap_alloc_old W o (blk_lt h)).trans h
/-- What check leaves. -/
def Tb.chk (t : Tb) (ok : Bool) : Tb := { t with bad := t.bad || !ok }
def chkF (a : S77) (ok : Bool) : S77 := if ok = true then a else zeroF
theorem Mut.set {w w' : World} {S : Nat → Prop} (h : Mut w w' S) {p : Addr} (hp : p.block < w.heap.size → S p.block) (u : Value) : Mut w (w'.setCell p u) S :=
  ⟨h.os, h.tape, h.output, by simpa using h.size, fun k hk hn => by rw [Below.heap_setCell w' p u k (fun e => hn (by subst e; exact hp hk))]; exact h.block k hk hn⟩
theorem Mut.alloc {w w' : World} {S : Nat → Prop} (h : Mut w w' S) (o : Obj) : Mut w (w'.alloc o) S := h.then_ (Mut.of (S := fun _ => False) (below_alloc (Below.refl _ _) o)) (fun _ _ hf => hf.elim)
end Go.Proofs.Ytaiefdhenikiiaa.Base
namespace Go.Proofs.Ytaiefdhenikiiaa.Base
open Go.RowKit Go.Proofs.YtaiefdhenikiiaaW.PrintWords Go.Proofs.YtaiefdhenikiiaaW.PrintLast Go.Proofs.YtaiefdhenikiiaaW.PrintMore
set_option linter.unusedVariables false
set_option linter.unusedSimpArgs false
theorem TabAt.alloc {w : World} {g h : Nat} {t : Tb} (H : TabAt w g h t) (o : Obj) : TabAt (w.alloc o) g h t := H.below (below_alloc (Below.refl _ _) o)
theorem TabAt.drew {w : World} {g h : Nat} {t : Tb} (H : TabAt w g h t) : TabAt w.drew g h t := ⟨H.st, H.vl⟩
theorem TabAt.drewN {w : World} {g h : Nat} {t : Tb} (H : TabAt w g h t) (n : Nat) : TabAt (w.drewN n) g h t := ⟨H.st, H.vl⟩
theorem Mut.drew {w w' : World} {S : Nat → Prop} (h : Mut w w' S) : Mut w w'.drew S := ⟨h.os, h.tape, h.output, h.size, h.block⟩
theorem Mut.drewN {w w' : World} {S : Nat → Prop} (h : Mut w w' S) (n : Nat) : Mut w (w'.drewN n) S := ⟨h.os, h.tape, h.output, h.size, h.block⟩
theorem Mut.call {w w' w'' : World} {S : Nat → Prop} (h : Mut w w' S) (hb : Below w'.heap.size w' w'') : Mut w w'' S := h.then_ (Mut.of (S := fun _ => False) hb) (fun _ _ hf => hf.elim)
theorem Mut.mono {w w' : World} {S T : Nat → Prop} (h : Mut w w' S) (hT : ∀ i, i < w.heap.size → S i → T i) : Mut w w' T := ⟨h.os, h.tape, h.output, h.size, fun k hk hn => h.block k hk (fun hs => hn (hT k hk hs))⟩
theorem Mut.blk {w w' : World} {S : Nat → Prop} (m : Mut w w' S) {k : Nat} {o : Obj} (h : w.heap[k]? = some o) (hS : ¬ S k) : w'.heap[k]? = some o := (m.block k (blk_lt h) hS).trans h
section
variable {W W' w w' : World} {b : Nat} {a : S77}
end
/-- What add leaves. -/
def Tb.put (t : Tb) (kk : Nat) (a : S77) : Tb := { t with vs := t.vs.set kk a }
def Tb.add (t : Tb) (kk : Nat) (a : S77) : Tb := (t.chk (plusM (t.vs.getD kk zeroF) a).2).put kk (chkF (plusM (t.vs.getD kk zeroF) a).1 (plusM (t.vs.getD kk zeroF) a).2)
theorem TabAt.put {w : World} {g h : Nat} {t : Tb} (H : TabAt w g h t) (kk : Nat) (hk : kk < t.vs.length) (a : S77) : TabAt ((w.setCell ⟨h, kk * 2, none⟩ (.int .i64 a.f0)).setCell ⟨h, kk * 2 + 1, none⟩ (.int .i64 a.f1)) g h (t.put kk a) := by
  refine ⟨?_, ?_⟩
  · have := blk_far (blk_far H.st (p := ⟨h, kk * 2, none⟩) H.ne (.int .i64 a.f0)) (p := ⟨h, kk * 2 + 1, none⟩) H.ne (.int .i64 a.f1)
    rw [this]; simp only [Tb.put, List.length_set]
  · rw [blk_set (blk_set H.vl _ _) _ _]
    simp only [Tb.put, cellsF_set _ _ _ hk, List.setIfInBounds_toArray, Nat.mul_comm]
end Go.Proofs.Ytaiefdhenikiiaa.Base
namespace Go.Proofs.Ytaiefdhenikiiaa.Base
open Go.RowKit Go.Proofs.YtaiefdhenikiiaaW.PrintWords Go.Proofs.YtaiefdhenikiiaaW.PrintLast Go.Proofs.YtaiefdhenikiiaaW.PrintMore
set_option linter.unusedVariables false
set_option linter.unusedSimpArgs false
def encW (l : List Nat) : ByteArray := ⟨(l.map fun i => UInt8.ofNat (48 + i)).toArray⟩
def wordsN (d : Nat) : Nat → List (List Nat)
  | 0 => [[]]
  | n + 1 => (wordsN d n).flatMap fun w => (List.range d).map fun i => w ++ [i]
theorem encW_size (l : List Nat) : (encW l).size = l.length := by simp [encW, ByteArray.size]
def aheadN (d : Nat) : Nat → Nat
  | 0 => 0
  | m + 1 => aheadN d m + d ^ m
/-- All words of at most n letters, in order, as_ digits. -/
def wordsD (d : Nat) : Nat → List (List Nat)
  | 0 => [[]]
  | n + 1 => wordsD d n ++ wordsN d (n + 1)
/-- Is it a word of a table? -/
def isD (d n : Nat) (l : List Nat) : Prop := l.length ≤ n ∧ ∀ x ∈ l, x < d
theorem enc_at (l : List Nat) (hl : ∀ x ∈ l, x < 100) (i : Nat) (h : i < l.length) : bt (encW l) (i : Int) = 48 + (l[i] : Int) := by
  have hs : i < (encW l).size := by rw [encW_size]; exact h
  unfold bt
  rw [dif_pos (by simpa using hs)]
  have := hl l[i] (List.getElem_mem h)
  simp only [Int.toNat_natCast]
  show (((encW l).data[i]'hs).toNat : Int) = _
  simp only [encW, List.getElem_toArray, List.getElem_map, UInt8.toNat_ofNat']
  omega
end Go.Proofs.Ytaiefdhenikiiaa.Base
namespace Go.Proofs.Ytaiefdhenikiiaa.Base
open Go.RowKit Go.Proofs.YtaiefdhenikiiaaW.PrintWords Go.Proofs.YtaiefdhenikiiaaW.PrintLast Go.Proofs.YtaiefdhenikiiaaW.PrintMore
set_option linter.unusedVariables false
set_option linter.unusedSimpArgs false
/-- The sizes of a table. -/
structure Sz (d n : Nat) : Prop where
  d1 : 1 ≤ d
  d3 : d ≤ 3
  n8 : n ≤ 8
structure Tb.Ok (t : Tb) : Prop where
  sz : Sz t.d t.n
  len : t.vs.length = (wordsD t.d t.n).length
  fr : ∀ x ∈ t.vs, okF x
section
variable {t : Tb}
theorem chkF_ok {p : S77 × Bool} (h : p.2 = true → okF p.1) : okF (chkF p.1 p.2) := by
  unfold chkF; split
  · next c => exact h c
  · exact zero_okF
theorem Tb.Ok.chk (h : t.Ok) (b : Bool) : (t.chk b).Ok := ⟨h.sz, h.len, h.fr⟩
theorem Tb.Ok.put (h : t.Ok) (kk : Nat) {a : S77} (ha : okF a) : (t.put kk a).Ok := ⟨h.sz, by simp only [Tb.put, List.length_set]; exact h.len, fun x hx => by
  rcases List.mem_or_eq_of_mem_set hx with hx | rfl
  · exact h.fr x hx
  · exact ha⟩
theorem Tb.Ok.add (h : t.Ok) (kk : Nat) (a : S77) : (t.add kk a).Ok := (h.chk _).put kk (chkF_ok fun hq => plus_okF hq)
end
end Go.Proofs.Ytaiefdhenikiiaa.Base
namespace Go.Proofs.Ytaiefdhenikiiaa.Base
open Go.RowKit Go.Proofs.YtaiefdhenikiiaaW.PrintWords Go.Proofs.YtaiefdhenikiiaaW.PrintLast Go.Proofs.YtaiefdhenikiiaaW.PrintMore
set_option linter.unusedVariables false
set_option linter.unusedSimpArgs false
def cT (x : S79) : List Value := [.string x.f0, .int .i64 x.f1.f0, .int .i64 x.f1.f1]
def cellsT (xs : List S79) : List Value := xs.flatMap cT
theorem cellsT_len (xs : List S79) : (cellsT xs).length = xs.length * 3 := by
  induction xs with
  | nil => rfl
  | cons x xs ih => simp only [cellsT, List.flatMap_cons, List.length_append, List.length_cons, cT, List.length_nil] at ih ⊢; omega
theorem cellsT_cons (x : S79) (xs : List S79) : cellsT (x :: xs) = .string x.f0 :: .int .i64 x.f1.f0 :: .int .i64 x.f1.f1 :: cellsT xs := rfl
theorem cellsT_at (xs : List S79) : ∀ (i : Nat) (h : i < xs.length), (cellsT xs)[i * 3]? = some (.string xs[i].f0) ∧ (cellsT xs)[i * 3 + 1]? = some (.int .i64 xs[i].f1.f0) ∧ (cellsT xs)[i * 3 + 2]? = some (.int .i64 xs[i].f1.f1) := by
  induction xs with
  | nil => intro i h; simp at h
  | cons x xs ih =>
    intro i h
    cases i with
    | zero => exact ⟨rfl, rfl, rfl⟩
    | succ i =>
      have := ih i (by simpa using h)
      rw [cellsT_cons, show (i + 1) * 3 = i * 3 + 1 + 1 + 1 by omega]
      exact this
theorem cellsT_set0 (xs : List S79) (s : ByteArray) : ∀ (i : Nat) (h : i < xs.length), (cellsT xs).set (i * 3) (.string s) = cellsT (xs.set i ⟨s, xs[i].f1⟩) := by
  induction xs with
  | nil => intro i h; simp at h
  | cons x xs ih =>
    intro i h
    cases i with
    | zero => rfl
    | succ i =>
      have := ih i (by simpa using h)
      rw [cellsT_cons, show (i + 1) * 3 = i * 3 + 1 + 1 + 1 by omega]
      simp only [List.set_cons_succ, this, List.getElem_cons_succ]
      rfl
theorem cellsT_set1 (xs : List S79) (n : Int) : ∀ (i : Nat) (h : i < xs.length), (cellsT xs).set (i * 3 + 1) (.int .i64 n) = cellsT (xs.set i ⟨xs[i].f0, ⟨n, xs[i].f1.f1⟩⟩) := by
  induction xs with
  | nil => intro i h; simp at h
  | cons x xs ih =>
    intro i h
    cases i with
    | zero => rfl
    | succ i =>
      have := ih i (by simpa using h)
      rw [cellsT_cons, show (i + 1) * 3 + 1 = i * 3 + 1 + 1 + 1 + 1 by omega]
      simp only [List.set_cons_succ, this, List.getElem_cons_succ]
      rfl
theorem cellsT_set2 (xs : List S79) (n : Int) : ∀ (i : Nat) (h : i < xs.length), (cellsT xs).set (i * 3 + 2) (.int .i64 n) = cellsT (xs.set i ⟨xs[i].f0, ⟨xs[i].f1.f0, n⟩⟩) := by
  induction xs with
  | nil => intro i h; simp at h
  | cons x xs ih =>
    intro i h
    cases i with
    | zero => rfl
    | succ i =>
      have := ih i (by simpa using h)
      rw [cellsT_cons, show (i + 1) * 3 + 2 = i * 3 + 2 + 1 + 1 + 1 by omega]
      simp only [List.set_cons_succ, this, List.getElem_cons_succ]
      rfl
theorem reps_cells {R : S79 → List Value → Prop} (hR : ∀ x cs, R x cs → cs = cT x) : ∀ (xs : List S79) (cs : List Value), Reps R 3 xs cs → cs = cellsT xs := by
  intro xs
  induction xs with
  | nil => intro cs h; have := h.1; simp at this; subst this; rfl
  | cons x xs ih =>
    intro cs h
    have h0 := hR _ _ (h.2 0 x rfl)
    rw [Nat.zero_mul, List.drop_zero] at h0
    have hl := h.1
    have h1 : Reps R 3 xs (cs.drop 3) := by
      refine ⟨by rw [List.length_drop, hl, List.length_cons]; omega, fun j p hp => ?_⟩
      have := h.2 (j + 1) p (by simpa using hp)
      rw [List.drop_drop, show 3 + j * 3 = (j + 1) * 3 by omega]
      exact this
    have h2 := ih _ h1
    rw [← List.take_append_drop 3 cs, h0, h2]
    rfl
theorem cells_reps {R : S79 → List Value → Prop} (hR : ∀ x, R x (cT x)) (xs : List S79) : Reps R 3 xs (cellsT xs) := by
  refine ⟨cellsT_len xs, fun j p hp => ?_⟩
  have : ((cellsT xs).drop (j * 3)).take 3 = cT p := by
    induction xs generalizing j with
    | nil => simp at hp
    | cons x xs ih =>
      cases j with
      | zero => obtain rfl : x = p := by simpa using hp
                rfl
      | succ j =>
        have := ih j (by simpa using hp)
        rw [cellsT_cons, show (j + 1) * 3 = j * 3 + 1 + 1 + 1 by omega]
        exact this
  rw [this]; exact hR p
section
variable {W W1 : World} {base g cap : Nat} {ok : Nat → Prop} {v : Value} {xs : List S79}
theorem ownT (h : Kd.R k79 79 W base ok v xs) : W.ownsRow base 79 3 v xs.length (cellsT xs) := by
  obtain ⟨h0, inner, ho, hr⟩ := h
  rw [← reps_cells (fun x cs hh => k79_openM hh) xs inner hr]
  exact ho
theorem of_ownT (h : W.ownsRow base 79 3 v xs.length (cellsT xs)) (hok : ∀ k, v.ownBlock = some k → ok k) : Kd.R k79 79 W base ok v xs :=
  ⟨hok, cellsT xs, h, cells_reps (fun x => k79_mkM _ _ _ x) xs⟩
theorem atT (h : Kd.R k79 79 W base ok (.slice (some ⟨g, 0, none⟩) xs.length cap) xs) (i : Nat) (hi : i < xs.length) :
    (W.cell? ⟨g, i * 3, none⟩ = some (.string xs[i].f0) ∧ W.cell? ⟨g, i * 3 + 1, none⟩ = some (.int .i64 xs[i].f1.f0) ∧ W.cell? ⟨g, i * 3 + 2, none⟩ = some (.int .i64 xs[i].f1.f1)) ∧ W.frozen? ⟨g, i * 3, none⟩ = false ∧ W.frozen? ⟨g, i * 3 + 1, none⟩ = false ∧ W.frozen? ⟨g, i * 3 + 2, none⟩ = false := by
  have ho := ownT h
  obtain ⟨c0, c1, c2⟩ := cellsT_at xs i hi
  exact ⟨⟨(ho.cellAt _ (by omega)).trans c0, (ho.cellAt _ (by omega)).trans c1, (ho.cellAt _ (by omega)).trans c2⟩, ho.frozenAt _, ho.frozenAt _, ho.frozenAt _⟩
theorem put0 {m : Nat} (h : Kd.R k79 79 W base ok (.slice (some ⟨g, 0, none⟩) m cap) xs) (i : Nat) (hi : i < xs.length) (hm : xs.length = m) (s : ByteArray) :
    Kd.R k79 79 (W.setCell ⟨g, i * 3, none⟩ (.string s)) base ok (.slice (some ⟨g, 0, none⟩) m cap) (xs.set i ⟨s, xs[i].f1⟩) ∧ W.grownBy (W.setCell ⟨g, i * 3, none⟩ (.string s)) (some g) := by
  subst hm
  have hs := (ownT h).stored (i * 3) (.string s)
  rw [cellsT_set0 xs s i hi] at hs
  exact ⟨of_ownT (by rw [List.length_set]; exact hs.1) h.1, hs.2⟩
theorem put1 {m : Nat} (h : Kd.R k79 79 W base ok (.slice (some ⟨g, 0, none⟩) m cap) xs) (i : Nat) (hi : i < xs.length) (hm : xs.length = m) (n : Int) :
    Kd.R k79 79 (W.setCell ⟨g, i * 3 + 1, none⟩ (.int .i64 n)) base ok (.slice (some ⟨g, 0, none⟩) m cap) (xs.set i ⟨xs[i].f0, ⟨n, xs[i].f1.f1⟩⟩) ∧ W.grownBy (W.setCell ⟨g, i * 3 + 1, none⟩ (.int .i64 n)) (some g) := by
  subst hm
  have hs := (ownT h).stored (i * 3 + 1) (.int .i64 n)
  rw [cellsT_set1 xs n i hi] at hs
  exact ⟨of_ownT (by rw [List.length_set]; exact hs.1) h.1, hs.2⟩
theorem put2 {m : Nat} (h : Kd.R k79 79 W base ok (.slice (some ⟨g, 0, none⟩) m cap) xs) (i : Nat) (hi : i < xs.length) (hm : xs.length = m) (n : Int) :
    Kd.R k79 79 (W.setCell ⟨g, i * 3 + 2, none⟩ (.int .i64 n)) base ok (.slice (some ⟨g, 0, none⟩) m cap) (xs.set i ⟨xs[i].f0, ⟨xs[i].f1.f0, n⟩⟩) ∧ W.grownBy (W.setCell ⟨g, i * 3 + 2, none⟩ (.int .i64 n)) (some g) := by
  subst hm
  have hs := (ownT h).stored (i * 3 + 2) (.int .i64 n)
  rw [cellsT_set2 xs n i hi] at hs
  exact ⟨of_ownT (by rw [List.length_set]; exact hs.1) h.1, hs.2⟩
end
end Go.Proofs.Ytaiefdhenikiiaa.Base
namespace Go.Proofs.Ytaiefdhenikiiaa.Base
open Go.RowKit Go.Proofs.YtaiefdhenikiiaaW.PrintWords Go.Proofs.YtaiefdhenikiiaaW.PrintLast Go.Proofs.YtaiefdhenikiiaaW.PrintMore
attribute [local go_sem] max2_int min2_int max_two min_two max_three min_three max_four min_four Go.Proofs.YtaiefdhenikiiaaZ.min2_string   -- for this text's walks alone
set_option linter.unusedVariables false
set_option linter.unusedSimpArgs false
def laws_markTermS.l0 : Nat → List S79 → Int → Nat → Option (Int × List S79)
  | 0, _, _, _ => none
  | k + 1, x, a, i => if i < x.length then ((laws_markText.f k a).bind fun s => laws_markTermS.l0 k (x.set i ⟨s, ⟨wrap64 (a + 1), wrap64 (wrap64 (a + 1) + 1)⟩⟩) (wrap64 (wrap64 (wrap64 (a + 1) + 1) + 1)) (i + 1)) else some (a, x)
def laws_markTermS.f (k : Nat) (l0 : List S79) (a1 : Int) : Option (Int × List S79) := laws_markTermS.l0 k l0 a1 0
theorem laws_markTermS.mono_l : ∀ k y0 y1 y2, LeO (laws_markTermS.l0 k y0 y1 y2) (laws_markTermS.l0 (k + 1) y0 y1 y2)
  | 0, _, _, _ => fun r h => by simp [laws_markTermS.l0] at h
  | k + 1, y0, y1, y2 => by
    unfold laws_markTermS.l0
    exact LeO.ite (LeO.bind (laws_markText.mono _ _) (fun _ => laws_markTermS.mono_l k _ _ _)) (LeO.refl _)
theorem laws_markTermS.mono : ∀ a0 a1 k, LeO (laws_markTermS.f k a0 a1) (laws_markTermS.f (k + 1) a0 a1) := fun a0 a1 k => laws_markTermS.mono_l k _ _ _
set_option maxHeartbeats 8000000 in
set_option maxRecDepth 100000 in
theorem laws_markTermS.calls (k : Nat) (P0_ : Nat → Prop) (u9000_ : Value) (l0 : List S79) (a1 : Int) (r1 : Int) (r2 : List S79) (w0 w : World) (hB : Below w0.heap.size w0 w) (ho0 : Kd.R k79 79 w w0.heap.size P0_ u9000_ l0) (h : laws_markTermS.f k l0 a1 = some (r1, r2)) :
    Calls Try.prog 26 #[u9000_, .int .i64 a1] w fun e w' => e = .returned (.int .i64 r1) ∧ Kd.R k79 79 w' w0.heap.size (fun k_ => (P0_ k_ ∨ w.heap.size ≤ k_)) u9000_ r2 ∧ Below w0.heap.size w0 w' ∧ Kept w w' (fun k_ => P0_ k_) := by
  have hu79 := Try.underlying79
  have hu77 := Try.underlying77
  have HO0 := Aside0.mk (show Kd.R k79 79 w w0.heap.size (fun k_ => (P0_ k_ ∨ w.heap.size ≤ k_)) u9000_ l0 from Kd.R_mono ho0 (fun k_ hk => (.inl hk)))
  have HP0 := Aside0.mk ho0
  have HK := Aside0.mk (Kept.refl w (fun k_ => P0_ k_))
  have HB := Aside0.mk hB
  obtain ⟨A, cap, rfl⟩ := Kd.R_slice ho0
  have HLL := Aside0.mk (show l0.length ≤ maxLen from by
    obtain ⟨_, h2⟩ := ownT ho0
    rcases h2 with ⟨_, h3⟩ | ⟨_, _, _, _, _, _, h4, h5, _⟩
    · rw [h3]; exact Nat.zero_le _
    · exact Nat.le_trans h4 h5)
  clear hB ho0
  have H' := Aside0.mk (show laws_markTermS.l0 k l0 a1 0 = some (r1, r2) from h)
  clear h
  go_enter Try.func26, Try.ntmps26
  go_wp2
  go_loopg [1, 5] k (fun kq v1 v5 w' => ∃ (x : List S79) (a : Int) (i : Nat), v1 = .int .i64 a ∧ v5 = .int .i64 i ∧ Aside0 (x.length = l0.length) ∧ Aside0 (i ≤ l0.length) ∧ Aside0 (laws_markTermS.l0 kq x a i = some (r1, r2)) ∧ Aside0 (kq ≤ k) ∧ Aside0 (Kd.R k79 79 w' w0.heap.size (fun k_ => (P0_ k_ ∨ w.heap.size ≤ k_)) (.slice A l0.length cap) x) ∧ Aside0 (Kept w w' (fun k_ => P0_ k_)) ∧ Aside0 (Below w0.heap.size w0 w'))
  case atStart => exact ⟨l0, a1, 0, rfl, rfl, ⟨rfl⟩, ⟨Nat.zero_le _⟩, H', ⟨Nat.le_refl _⟩, HO0, HK, HB⟩
  case round =>
    clear H' HO0
    obtain ⟨x, a, i, rfl, rfl, HXL, HIL, HA, HK1, HO, HK, HB⟩ := hrel
    cases gk with
    | zero => exact absurd HA.out (by simp [laws_markTermS.l0])
    | succ k1 =>
      have H := HA.out
      clear HA
      simp only [laws_markTermS.l0] at H
      by_cases c : i < x.length
      · rw [if_pos c] at H
        obtain ⟨s, hs, H⟩ := Option.bind_eq_some_iff.mp H
        have hlt : (i : Int) < (l0.length : Int) := by have := HXL.out; omega
        obtain ⟨g, cp, e_, gb, gl, cl, hg⟩ := Kd.R_form HO.out (by omega)
        have HM := Aside0.mk (show P0_ g ∨ w.heap.size ≤ g from HO.out.1 _ (by rw [e_]; simp [Value.ownBlock]))
        obtain ⟨rfl⟩ : A = some ⟨g, 0, none⟩ := by injection e_
        have HS := Aside0.mk hs
        have HN := Aside0.mk H
        have HGB := Aside0.mk gb
        have HC := Aside0.mk c
        have HO1 := Aside0.mk (show Kd.R k79 79 wr w0.heap.size (fun k_ => (P0_ k_ ∨ w.heap.size ≤ k_)) (.slice (some ⟨g, 0, none⟩) x.length cap) x by rw [HXL.out]; exact HO.out)
        clear hs H e_ gb gl hg HO c
        go_wp2_with (go_at_call 81; refine (laws_markText.calls k1 _ _ _ HS.out).mono ?_; rintro e w2 ⟨rfl, hb⟩; have O2 := Kd.R_below HO1.out hb; obtain ⟨⟨c0, c1, c2⟩, f0, f1, f2⟩ := atT O2 i HC.out; have HO2 := Aside0.mk O2; have HB2 := Aside0.mk (below_step HB.out hb); have HK2 := Aside0.mk (Kept.of_below hb (fun k_ => P0_ k_)); clear O2 hb)
        go_roundg k1
        case measure => have := HK1.out; omega
        case rel =>
          have q0 := (put0 HO2.out i HC.out rfl s).1
          have q1 := (put1 q0 i (by rw [List.length_set]; exact HC.out) (by rw [List.length_set]) (wrap64 (a + 1))).1
          have q2 := (put2 q1 i (by rw [List.length_set, List.length_set]; exact HC.out) (by rw [List.length_set, List.length_set]) (wrap64 (wrap64 (a + 1) + 1))).1
          simp only [List.getElem_set_self, List.set_set] at q2
          refine ⟨x.set i ⟨s, ⟨wrap64 (a + 1), wrap64 (wrap64 (a + 1) + 1)⟩⟩, _, i + 1, rfl, ?_, ⟨by rw [List.length_set]; exact HXL.out⟩, ⟨by have := HXL.out; have := HC.out; omega⟩, HN, ⟨by have := HK1.out; omega⟩, ⟨?_⟩, ⟨?_⟩, ⟨?_⟩⟩
          · rw [w64 (by omega) (by have h1 := HLL.out; have h2 := HXL.out; have h3 := HC.out; simp only [maxLen] at h1; omega)]; rfl
          · rw [HXL.out] at q2; exact q2
          · exact ((((Kept.then_ HK.out HK2.out (fun _ h_ => .inl h_)).setCell HM.out _).setCell HM.out _).setCell HM.out _)
          · exact ((HB2.out.setCell HGB.out _).setCell HGB.out _).setCell HGB.out _
      · rw [if_neg c] at H
        have HH := Aside0.mk (Option.some.inj H)
        have hlt : ¬ (i : Int) < (l0.length : Int) := by have := HXL.out; omega
        clear H c
        go_wp2
        go_ret
        have h1 : a = r1 := congrArg Prod.fst HH.out
        have h2 : x = r2 := congrArg Prod.snd HH.out
        subst h1 h2
        exact ⟨rfl, HO.out, HB.out, HK.out⟩
end Go.Proofs.Ytaiefdhenikiiaa.Base
namespace Go.Proofs.Ytaiefdhenikiiaa.Base
open Go.RowKit Go.Proofs.YtaiefdhenikiiaaW.PrintWords Go.Proofs.YtaiefdhenikiiaaW.PrintLast Go.Proofs.YtaiefdhenikiiaaW.PrintMore
set_option linter.unusedVariables false
set_option linter.unusedSimpArgs false
theorem w64m {x : Int} (h0 : -9223372036854775808 ≤ x) (h1 : x ≤ 9223372036854775807) : wrap64 x = x := by unfold wrap64; omega
theorem text_l0 (n : Nat) : ∀ (k : Nat) (s : ByteArray), k < n → k + s.size ≤ 1000000000000 → ∃ t, Ev (fun q => laws_markText.l0 q (k : Int) s) t := by
  induction n with
  | zero => intro k s h; omega
  | succ n ih =>
    intro k s hk hs
    by_cases c : k = 0
    · refine ⟨_, Ev.step (f := fun _ => some ((⟨#[109]⟩ : ByteArray) ++ s)) (fun q => ?_) (Ev.now _)⟩
      simp only [laws_markText.l0]
      rw [if_neg (by omega), if_pos (by omega)]
    · obtain ⟨t, ht⟩ := ih (k / 10) (strOfNums [wrap64 (48 + Int.tmod (k : Int) 10) % 256] ++ s) (by omega) (by rw [ByteArray.size_append, strOfNums_size]; simp only [List.length_cons, List.length_nil]; omega)
      refine ⟨t, Ev.step (fun q => ?_) ht⟩
      simp only [laws_markText.l0]
      have e : wrap64 (Int.tdiv (k : Int) 10) = ((k / 10 : Nat) : Int) := by
        rw [Int.tdiv_eq_ediv_of_nonneg (by omega)]
        rw [w64m (by omega) (by omega)]; omega
      rw [if_pos (by omega)]
      simp only [Option.bind_some]
      rw [if_pos (by rw [strOfNums_size]; simp only [List.length_cons, List.length_nil]; omega), e]
theorem text_ends (k : Nat) (hk : k ≤ 1000000000) : ∃ t, Ev (fun q => laws_markText.f q (k : Int)) t := by
  by_cases c : k = 0
  · exact ⟨_, Ev.congr (f := fun _ => some (⟨#[109, 48]⟩ : ByteArray)) (fun q => by unfold laws_markText.f; rw [if_pos (by omega)]) (Ev.now _)⟩
  · obtain ⟨t, ht⟩ := text_l0 (k + 1) k (⟨#[]⟩ : ByteArray) (by omega) (by show k + 0 ≤ _; omega)
    refine ⟨t, Ev.congr (fun q => ?_) ht⟩
    unfold laws_markText.f; rw [if_neg (by omega)]
theorem rd79 (l : List S79) (j : Nat) (h : j < l.length) : rd_T79 l (j : Int) = l[j] := by simp [rd_T79, List.getD_eq_getElem?_getD, List.getElem?_eq_getElem h]
theorem rd75 (l : List S75) (j : Nat) (h : j < l.length) : rd_T75 l (j : Int) = l[j] := by simp [rd_T75, List.getD_eq_getElem?_getD, List.getElem?_eq_getElem h]
/-- Marks. -/
theorem marksT_ends (n m : Nat) : ∀ (j k0 : Nat) (l : List S79), j + m = n → l.length = n → n ≤ 2000000 → k0 + 3 * m ≤ 100000000 →
    ∃ l' : List S79, l'.length = n ∧ (∀ i, i < j → l'[i]? = l[i]?) ∧ Ev (fun q => laws_markTermS.l0 q l (k0 : Int) j) (((k0 + 3 * m : Nat) : Int), l') ∧ Ev (fun q => laws_heldTermS.l0 q l' (k0 : Int) (j : Int)) ((k0 + 3 * m : Nat) : Int) := by
  induction m with
  | zero =>
    intro j k0 l hj hl hn hk
    refine ⟨l, hl, fun _ _ => rfl, Ev.step (f := fun _ => some ((k0 : Int), l)) (fun q => ?_) ?_, Ev.step (f := fun _ => some (k0 : Int)) (fun q => ?_) ?_⟩
    · simp only [laws_markTermS.l0]; rw [if_neg (by omega)]
    · exact Ev.now _
    · simp only [laws_heldTermS.l0]; rw [if_neg (by omega)]
    · exact Ev.now _
  | succ m ih =>
    intro j k0 l hj hl hn hk
    have hlt : j < l.length := by omega
    obtain ⟨t, ht⟩ := text_ends k0 (by omega)
    obtain ⟨x, hx⟩ : ∃ x : S79, x = ⟨t, ⟨((k0 + 1 : Nat) : Int), ((k0 + 2 : Nat) : Int)⟩⟩ := ⟨_, rfl⟩
    obtain ⟨l', h1, h2, h3, h4⟩ := ih (j + 1) (k0 + 3) (l.set j x) (by omega) (by rw [List.length_set]; exact hl) hn (by omega)
    have e1 : wrap64 ((k0 : Int) + 1) = ((k0 + 1 : Nat) : Int) := by rw [w64m (by omega) (by omega)]; rfl
    have e2 : wrap64 (((k0 + 1 : Nat) : Int) + 1) = ((k0 + 2 : Nat) : Int) := by rw [w64m (by omega) (by omega)]; rfl
    have e3 : wrap64 (((k0 + 2 : Nat) : Int) + 1) = ((k0 + 3 : Nat) : Int) := by rw [w64m (by omega) (by omega)]; rfl
    have ej : wrap64 ((j : Int) + 1) = ((j + 1 : Nat) : Int) := by rw [w64m (by omega) (by omega)]; rfl
    rw [show k0 + 3 + 3 * m = k0 + 3 * (m + 1) by omega] at h3 h4
    have hj' : l'[j]? = some x := by rw [h2 j (by omega), List.getElem?_set_self hlt]
    refine ⟨l', h1, fun i hi => ?_, ?_, ?_⟩
    · rw [h2 i (by omega), List.getElem?_set_ne (by omega)]
    · refine Ev.step (f := fun q => (laws_markText.f q (k0 : Int)).bind fun t => laws_markTermS.l0 q (l.set j ⟨t, ⟨((k0 + 1 : Nat) : Int), ((k0 + 2 : Nat) : Int)⟩⟩) ((k0 + 3 : Nat) : Int) (j + 1)) (fun q => ?_) (Ev.bind ht (by rw [← hx]; exact h3))
      simp only [laws_markTermS.l0]
      rw [if_pos hlt, e1, e2, e3]
    · have hjl : j < l'.length := by omega
      have hr : rd_T79 l' (j : Int) = x := by rw [rd79 l' j hjl]; rw [List.getElem?_eq_getElem hjl] at hj'; exact Option.some.inj hj'
      refine Ev.step (f := fun q => (laws_markText.f q (k0 : Int)).bind fun t2 => if x.f0.toList = t2.toList then laws_heldTermS.l0 q l' ((k0 + 3 : Nat) : Int) ((j + 1 : Nat) : Int) else some (-1)) (fun q => ?_) (Ev.bind ht ?_)
      · simp only [laws_heldTermS.l0]
        rw [if_pos (by omega), if_pos (by omega), e1, e2, e3, ej, hr, hx]
        simp only [if_true]
      · rw [hx]; simp only [if_true]
        exact h4
theorem marksT (l : List S79) (hl : l.length ≤ 2000000) : ∃ l' : List S79, l'.length = l.length ∧ Ev (fun q => laws_markTermS.f q l 1) (((1 + 3 * l.length : Nat) : Int), l') ∧ Ev (fun q => laws_heldTermS.f q l' 1) ((1 + 3 * l.length : Nat) : Int) := by
  obtain ⟨l', h1, _, h3, h4⟩ := marksT_ends l.length l.length 0 1 l (by omega) rfl hl (by omega)
  exact ⟨l', h1, h3, h4⟩
theorem eqTerm_same (x : S79) : laws_eqTerm.f x.f0 x.f1.f0 x.f1.f1 x.f0 x.f1.f0 x.f1.f1 = some true := by
  unfold laws_eqTerm.f laws_eqFraction.f
  simp
theorem eqT_loop (l : List S79) (hl : l.length ≤ 2000000) (m : Nat) : ∀ j : Nat, j + m = l.length → Ev (fun q => laws_eqTermS.l0 q l l (j : Int)) true := by
  induction m with
  | zero =>
    intro j hj
    refine Ev.step (f := fun _ => some true) (fun q => ?_) (Ev.now _)
    simp only [laws_eqTermS.l0]; rw [if_neg (by omega)]
  | succ m ih =>
    intro j hj
    refine Ev.step (fun q => ?_) (ih (j + 1) (by omega))
    simp only [laws_eqTermS.l0]
    rw [if_pos (by omega), if_pos (by omega), if_pos (by omega), w64m (x := (j : Int) + 1) (by omega) (by omega), eqTerm_same]
    simp only [Option.bind_some, if_true]; rfl
theorem eqT_same (l : List S79) (hl : l.length ≤ 2000000) : Ev (fun q => laws_eqTermS.f q l l) true := by
  refine Ev.congr (fun q => ?_) (eqT_loop l hl l.length 0 (by omega))
  unfold laws_eqTermS.f; rw [if_pos rfl]; rfl
/-- A law's term as_ the program's. -/
def toX (x : S75) : S79 := ⟨x.f0, ⟨x.f1.f0, x.f1.f1⟩⟩
def toTo (l : List S75) (j : Nat) : List S79 := (l.take j).map toX ++ List.replicate (l.length - j) z79
theorem toT_loop (l : List S75) (hl : l.length ≤ 2000000) (m : Nat) : ∀ j : Nat, j + m = l.length → Ev (fun q => laws_toTermS.l0 q l (toTo l j) (j : Int)) (l.map toX) := by
  induction m with
  | zero =>
    intro j hj
    refine Ev.step (f := fun _ => some (l.map toX)) (fun q => ?_) (Ev.now _)
    simp only [laws_toTermS.l0]; rw [if_neg (by omega)]
    unfold toTo
    rw [show j = l.length by omega, List.take_length, Nat.sub_self, List.replicate_zero, List.append_nil]
  | succ m ih =>
    intro j hj
    refine Ev.step (fun q => ?_) (ih (j + 1) (by omega))
    have hjl : j < l.length := by omega
    have hlen : (toTo l j).length = l.length := by unfold toTo; rw [List.length_append, List.length_map, List.length_take, List.length_replicate]; omega
    have hset : (toTo l j).set j (toX l[j]) = toTo l (j + 1) := by
      unfold toTo
      have h1 : ((l.take j).map toX).length = j := by rw [List.length_map, List.length_take]; omega
      rw [List.set_append_right _ _ (by omega), h1, Nat.sub_self, show l.length - j = (l.length - (j + 1)) + 1 by omega, List.replicate_succ, List.set_cons_zero, List.take_succ_eq_append_getElem hjl, List.map_append]
      simp
    simp only [laws_toTermS.l0]
    rw [if_pos (by omega), if_pos (by omega)]
    unfold laws_toTerm.f laws_toFraction.f
    simp only [Option.bind_some]
    rw [if_pos (by omega), w64m (x := (j : Int) + 1) (by omega) (by omega), rd75 l j hjl, Int.toNat_natCast]
    show laws_toTermS.l0 q l ((toTo l j).set j (toX l[j])) _ = _
    rw [hset]; rfl
theorem toT_is (l : List S75) (hl : l.length ≤ 2000000) : Ev (fun q => laws_toTermS.f q l) (l.map toX) := by
  refine Ev.congr (fun q => ?_) (toT_loop l hl l.length 0 (by omega))
  unfold laws_toTermS.f
  rw [if_pos (by omega), if_pos (by omega)]
  rfl
end Go.Proofs.Ytaiefdhenikiiaa.Base
namespace Go.Proofs.Ytaiefdhenikiiaa.Base
open Go.RowKit Go.Proofs.YtaiefdhenikiiaaW.PrintWords Go.Proofs.YtaiefdhenikiiaaW.PrintLast Go.Proofs.YtaiefdhenikiiaaW.PrintMore
attribute [local go_sem] max2_int min2_int max_two min_two max_three min_three max_four min_four Go.Proofs.YtaiefdhenikiiaaZ.min2_string   -- for this text's walks alone
set_option linter.unusedVariables false
set_option linter.unusedSimpArgs false
def laws_markSeries.f (k : Nat) (a0_0 : Int) (a0_1 : Int) (l0_2 : List (S79)) (a1 : Int) : Option (Int × (List (S79))) := (laws_markTermS.f k l0_2 a1).bind fun bt261 => (some (bt261.1, bt261.2))
theorem laws_markSeries.mono : ∀ a0 a1 a2 a3 k, LeO (laws_markSeries.f k a0 a1 a2 a3) (laws_markSeries.f (k + 1) a0 a1 a2 a3) := by
  intro a0 a1 a2 a3 k
  unfold laws_markSeries.f
  repeat' first
      | (with_reducible exact laws_markTermS.mono _ _ _)
      | (with_reducible exact LeO.refl _)
      | (with_reducible exact LeO.none _)
      | (with_reducible refine LeO.ite ?_ ?_)
      | (with_reducible refine LeO.bind ?_ (fun _ => ?_))
      | exact laws_markTermS.mono _ _ _
      | exact LeO.none _
      | refine LeO.ite ?_ ?_
      | refine LeO.bind ?_ (fun _ => ?_)
set_option maxHeartbeats 8000000 in
set_option maxRecDepth 100000 in
theorem laws_markSeries.calls (k : Nat) (a0_0 : Int) (a0_1 : Int) (P0_2_ : Nat → Prop) (u9000_ : Value) (l0_2 : List (S79)) (a1 : Int) (r1 : Int) (r2 : List (S79)) (w0 w : World) (hB : Below w0.heap.size w0 w) (ho0_2 : Kd.R k79 79 w w0.heap.size P0_2_ u9000_ l0_2) (h : laws_markSeries.f k a0_0 a0_1 l0_2 a1 = some (r1, r2)) :
    Calls Try.prog 34 #[.agg #[.int .i64 a0_0, .int .i64 a0_1, u9000_], .int .i64 a1] w fun e w' => e = .returned (.int .i64 r1) ∧ Kd.R k79 79 w' w0.heap.size (fun k_ => (P0_2_ k_ ∨ w.heap.size ≤ k_)) u9000_ r2 ∧ Below w0.heap.size w0 w' ∧ Kept w w' (fun k_ => P0_2_ k_) := by
  have hu38 := Try.underlying38
  have HO0_2 := Aside0.mk (show Kd.R k79 79 w w0.heap.size (fun k_ => (P0_2_ k_ ∨ w.heap.size ≤ k_)) u9000_ l0_2 from Kd.R_mono ho0_2 (fun k_ hk => (.inl hk)))
  have HK := Aside0.mk (Kept.refl w (fun k_ => P0_2_ k_))
  have HW0 := Aside0.mk hB.size
  have HB := Aside0.mk hB
  clear hB
  have H : ((laws_markTermS.f k l0_2 a1).bind fun bt261 => (some (bt261.1, bt261.2))) = some (r1, r2) := h
  clear h
  replace H := Option.bind_eq_some_iff.mp H
  obtain ⟨⟨t261, t262⟩, A30, H⟩ := H
  replace H : (some (t261, t262)) = some (r1, r2) := H
  have A3 := Aside0.mk A30
  clear A30
  simp only [Option.some.injEq, Prod.mk.injEq] at H
  obtain ⟨rfl, rfl⟩ := H
  obtain ⟨Ao4, co4, eo4⟩ := Kd.R_slice HO0_2.out
  subst eo4
  go_enter Try.func34, Try.ntmps34
  go_wp2_with (first | ((with_reducible refine gate_dst (N := 2) rfl ?_); refine box_event ?hg (N := 2) ?hd (cs := #[.int .i64 a0_0, .int .i64 a0_1, .slice Ao4 l0_2.length co4]) (t := 38) ?hr ?_; (case hd => rfl); (case hg => rfl); (case hr => first | (go_simp; done) | (go_simp; rfl)); intro gb260 hg w5 hbox hb; have n0_ := Aside0.mk (Kd.R_below (by (with_reducible repeat (first | apply Kd.R_alloc | apply Kd.R_drewN | apply Kd.R_drew)); exact HO0_2.out) hb); have n1_ := Aside0.mk (Kept.below (S := (fun k_ => P0_2_ k_)) (by repeat (first | (with_reducible first | exact HK.out | apply Kept.alloc | apply Kept.drewN | apply Kept.drew) | exact HK.out)) hb); have n2_ := Aside0.mk (below_step (by repeat (first | (with_reducible first | exact HB.out | apply below_alloc | apply pw_below_drewN | apply below_drew1) | exact HB.out)) hb); have n3_ := Aside0.mk (hbox); have n4_ := Aside0.mk ((by rw [hg]; exact (by first | exact HK.out.1 | exact (show Kept w _ (fun k_ => P0_2_ k_) from by repeat (first | (with_reducible first | exact HK.out | apply Kept.alloc | apply Kept.drewN | apply Kept.drew) | exact HK.out)).1) : w.heap.size ≤ gb260)); have n5_ := Aside0.mk ((by rw [hg]; exact (below_size (by repeat (first | (with_reducible first | exact HB.out | apply below_alloc | apply pw_below_drewN | apply below_drew1) | exact HB.out))) : w0.heap.size ≤ gb260)); clear HO0_2; clear HK; clear HB; have HO0_2 := n0_; have HK := n1_; have HB := n2_; have BK260 := n3_; have GW260 := n4_; have GE260 := n5_; clear n0_ n1_ n2_ n3_ n4_ n5_; clear hb hbox hg; have hcz6_0 : w5.cell? ⟨gb260, 0, none⟩ = some (.int .i64 a0_0) := (blk_cell BK260.out 0).trans rfl; have hcz6_1 : w5.cell? ⟨gb260, 1, none⟩ = some (.int .i64 a0_1) := (blk_cell BK260.out 1).trans rfl; have hcz6_2 : w5.cell? ⟨gb260, 2, none⟩ = some (.slice Ao4 l0_2.length co4) := (blk_cell BK260.out 2).trans rfl; have hfz6_0 := blk_frozen BK260.out 0; have hfz6_1 := blk_frozen BK260.out 1; have hfz6_2 := blk_frozen BK260.out 2) | ((with_reducible refine gate_callee (f := 26) rfl ?_); refine goesL_ (some 8) rfl rfl Try.func26 (by kernel_rfl) rfl #[.slice Ao4 l0_2.length co4, .int .i64 a1] rfl (by (try simp only [List.map_toArray, List.map_cons, List.map_nil]); first | done | rfl | (simp only [List.length_drop, List.length_take]; rfl)) ?_; (with_reducible refine (laws_markTermS.calls k (fun k_ => some k_ = (.slice Ao4 l0_2.length co4 : Value).ownBlock) (.slice Ao4 l0_2.length co4) l0_2 a1 t261 t262 w0 _ ?side1 ?side2 A3.out).mono ?_); (case side1 => repeat (first | (with_reducible first | exact HB.out | apply below_alloc | apply pw_below_drewN | apply below_drew1 | refine below_set ?_ GE260.out) | exact HB.out)); (case side2 => exact Kd.R_tight rfl HO0_2.out); rintro e w7 ⟨rfl, hy0, hb, hkp⟩; refine ⟨_, rfl, ?_⟩; have n0_ := Aside0.mk (Kd.R_reok rfl hy0 (fun k_ e_ => HO0_2.out.1 k_ e_)); have n1_ := Aside0.mk (blk_kept (by (with_reducible repeat (first | refine blk_drewN ?_ _ | refine blk_drew ?_ | refine blk_alloc ?_ _)); exact BK260.out) hkp (fun hs_ => (fun e_ => (Kd.R_ne HO0_2.out BK260.out (by decide)) e_) hs_)); have n2_ := Aside0.mk (Kept.then_ (S := (fun k_ => P0_2_ k_)) (by repeat (first | (with_reducible first | exact HK.out | apply Kept.alloc | apply Kept.drewN | apply Kept.drew | refine Kept.setCell ?_ (.inr GW260.out) _) | exact HK.out)) hkp (fun k_ hs_ => (fun e_ => (HO0_2.out.1 k_ e_.symm)) hs_)); have n3_ := Aside0.mk (hb); clear HO0_2; clear BK260; clear HK; clear HB; have HO0_2 := n0_; have BK260 := n1_; have HK := n2_; have HB := n3_; clear n0_ n1_ n2_ n3_; (try clear hb); (try clear hkp); (try clear hy0)))
  go_ret
  exact ⟨by first | rfl | (simp [errW_none, errW_some] <;> rfl) | (simp [*, errW_none, errW_some] <;> rfl), by (with_reducible repeat (first | apply Kd.R_alloc | apply Kd.R_drewN | apply Kd.R_drew)); exact HO0_2.out, by repeat (first | (with_reducible first | exact HB.out | apply below_alloc | apply pw_below_drewN | apply below_drew1 | refine below_set ?_ GE260.out) | exact HB.out), by repeat (first | (with_reducible first | exact HK.out | apply Kept.alloc | apply Kept.drewN | apply Kept.drew | refine Kept.setCell ?_ (.inr GW260.out) _) | exact HK.out)⟩
end Go.Proofs.Ytaiefdhenikiiaa.Base
