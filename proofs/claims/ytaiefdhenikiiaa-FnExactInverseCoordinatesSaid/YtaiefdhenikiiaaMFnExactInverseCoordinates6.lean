/- Texts that the proof of FnExactInverseCoordinates needs, part 6. No condition. -/
import Derived.Test.YtaiefdhenikiiaaMFnExactInverseCoordinates5
import Derived.Handy
namespace Go.Proofs.Ytaiefdhenikiiaa.Base
open Go.RowKit Go.Proofs.YtaiefdhenikiiaaW.PrintWords Go.Proofs.YtaiefdhenikiiaaW.PrintLast Go.Proofs.YtaiefdhenikiiaaW.PrintMore
set_option linter.unusedVariables false
set_option linter.unusedSimpArgs false
/-- A table. -/
structure Tb where
  d : Nat
  n : Nat
  vs : List S77
  bad : Bool
def cellsF (vs : List S77) : List Value := vs.flatMap fun x => [.int .i64 x.f0, .int .i64 x.f1]
theorem cellsF_0 (vs : List S77) : ∀ (k : Nat) (hk : k < vs.length), (cellsF vs)[2 * k]? = some (.int .i64 (vs[k].f0)) := by
  induction vs with
  | nil => intro k hk; simp at hk
  | cons x vs ih =>
    intro k hk
    cases k with
    | zero => rfl
    | succ k => have := ih k (by simpa using hk); simpa [cellsF, Nat.mul_succ] using this
theorem cellsF_1 (vs : List S77) : ∀ (k : Nat) (hk : k < vs.length), (cellsF vs)[2 * k + 1]? = some (.int .i64 (vs[k].f1)) := by
  induction vs with
  | nil => intro k hk; simp at hk
  | cons x vs ih =>
    intro k hk
    cases k with
    | zero => rfl
    | succ k => have := ih k (by simpa using hk); simpa [cellsF, Nat.mul_succ] using this
/-- The table t in the blocks g (its fields) and h (its values). -/
structure TabAt (W : World) (g h : Nat) (t : Tb) : Prop where
  st : W.heap[g]? = some (.cells #[.int .i64 (t.d : Int), .int .i64 (t.n : Int), .slice (some ⟨h, 0, none⟩) t.vs.length t.vs.length, .bool t.bad] 126 (0, 0))
  vl : W.heap[h]? = some (.cells (cellsF t.vs).toArray 77 (0, 0))
section
variable {W W' w w' : World} {g h : Nat} {t : Tb}
theorem TabAt.ltg (H : TabAt W g h t) : g < W.heap.size := blk_lt H.st
theorem TabAt.lth (H : TabAt W g h t) : h < W.heap.size := blk_lt H.vl
theorem TabAt.c0 (H : TabAt W g h t) : W.cell? ⟨g, 0, none⟩ = some (.int .i64 (t.d : Int)) := by rw [blk_cell H.st]; rfl
theorem TabAt.c1 (H : TabAt W g h t) : W.cell? ⟨g, 1, none⟩ = some (.int .i64 (t.n : Int)) := by rw [blk_cell H.st]; rfl
theorem TabAt.c2 (H : TabAt W g h t) : W.cell? ⟨g, 2, none⟩ = some (.slice (some ⟨h, 0, none⟩) t.vs.length t.vs.length) := by rw [blk_cell H.st]; rfl
theorem TabAt.c3 (H : TabAt W g h t) : W.cell? ⟨g, 3, none⟩ = some (.bool t.bad) := by rw [blk_cell H.st]; rfl
theorem TabAt.v0 (H : TabAt W g h t) (k : Nat) (hk : k < t.vs.length) : W.cell? ⟨h, k * 2, none⟩ = some (.int .i64 (t.vs[k].f0)) := by
  rw [blk_cell H.vl, List.getElem?_toArray, Nat.mul_comm]; exact cellsF_0 _ k hk
theorem TabAt.v1 (H : TabAt W g h t) (k : Nat) (hk : k < t.vs.length) : W.cell? ⟨h, k * 2 + 1, none⟩ = some (.int .i64 (t.vs[k].f1)) := by
  rw [blk_cell H.vl, List.getElem?_toArray, Nat.mul_comm]; exact cellsF_1 _ k hk
theorem TabAt.below (H : TabAt W g h t) (hb : Below W.heap.size W W') : TabAt W' g h t := ⟨(hb.block g H.ltg).trans H.st, (hb.block h H.lth).trans H.vl⟩
/-- What was there is as_ it was, but for the blocks of S. -/
structure Mut (w w' : World) (S : Nat → Prop) : Prop where
  os : w'.os = w.os
  tape : w'.tape = w.tape
  output : w'.output = w.output
  size : w.heap.size ≤ w'.heap.size
  block : ∀ k, k < w.heap.size → ¬ S k → w'.heap[k]? = w.heap[k]?
theorem Mut.refl (w : World) (S : Nat → Prop) : Mut w w S := ⟨rfl, rfl, rfl, Nat.le_refl _, fun _ _ _ => rfl⟩
theorem Mut.of {S : Nat → Prop} (h : Below w.heap.size w w') : Mut w w' S := ⟨h.os, h.tape, h.output, h.size, fun k hk _ => h.block k hk⟩
theorem Mut.then_ {w'' : World} {S T : Nat → Prop} (h : Mut w w' S) (k : Mut w' w'' T) (hT : ∀ i, i < w.heap.size → T i → S i) : Mut w w'' S :=
  ⟨k.os.trans h.os, k.tape.trans h.tape, k.output.trans h.output, Nat.le_trans h.size k.size, fun i hi hn => (k.block i (Nat.lt_of_lt_of_le hi h.size) (fun hT' => hn (hT i hi hT'))).trans (h.block i hi hn)⟩
theorem Mut.below {S : Nat → Prop} {B : Nat} {w0 : World} (h : Mut w w' S) (hb : Below B w0 w) (hB : B ≤ w.heap.size) (hS : ∀ i, i < w.heap.size → S i → B ≤ i) : Below B w0 w' :=
  ⟨h.os.trans hb.os, h.tape.trans hb.tape, h.output.trans hb.output, Nat.le_trans hb.size h.size, fun k hk => (h.block k (Nat.lt_of_lt_of_le hk hB) (fun hs => absurd (hS k (Nat.lt_of_lt_of_le hk hB) hs) (by omega))).trans (hb.block k hk)⟩
theorem Mut.cell {S : Nat → Prop} (h : Mut w w' S) {a : Addr} {v : Value} (hc : w.cell? a = some v) (hS : ¬ S a.block) : w'.cell? a = some v := by
  have := h.block a.block (World.block_lt_of_cell? w a hc) hS
  unfold World.cell? at hc ⊢
  rw [this]; exact hc
end
end Go.Proofs.Ytaiefdhenikiiaa.Base
namespace Go.Proofs.Ytaiefdhenikiiaa.Base
open Go.RowKit Go.Proofs.YtaiefdhenikiiaaW.PrintWords Go.Proofs.YtaiefdhenikiiaaW.PrintLast Go.Proofs.YtaiefdhenikiiaaW.PrintMore
set_option linter.unusedVariables false
set_option linter.unusedSimpArgs false
theorem w64 {x : Int} (h0 : -9223372036854775808 ≤ x) (h1 : x ≤ 9223372036854775807) : wrap64 x = x := by unfold wrap64; omega
/-- Is it a fraction? -/
def okF (a : S77) : Prop := 1 ≤ a.f1 ∧ a.f1 ≤ 1000000000 ∧ -1000000000 ≤ a.f0 ∧ a.f0 ≤ 1000000000 ∧ Int.gcd a.f0 a.f1 = 1
instance (a : S77) : Decidable (okF a) := by unfold okF; exact inferInstance
theorem S77.ext' {a b : S77} (h0 : a.f0 = b.f0) (h1 : a.f1 = b.f1) : a = b := by cases a; cases b; simp_all
theorem common_loop : ∀ (b a : Nat), Ev (fun k => impl_common.l0 k (a : Int) (b : Int)) ((Nat.gcd a b : Nat) : Int) := by
  intro b
  induction b using Nat.strongRecOn with
  | _ b ih =>
    intro a
    by_cases hb : b = 0
    · subst hb
      refine Ev.step (f := fun _ => some ((Nat.gcd a 0 : Nat) : Int)) (fun k => ?_) (Ev.now _)
      simp only [impl_common.l0]
      rw [if_pos (by omega)]; simp
    · have h := ih (a % b) (Nat.mod_lt _ (by omega)) b
      rw [Nat.gcd_comm, ← Nat.gcd_rec b a, Nat.gcd_comm] at h
      refine Ev.step (fun k => ?_) h
      simp only [impl_common.l0]
      rw [if_neg (by omega), ← Int.ofNat_tmod]
theorem size_is {a : Int} (h : a.natAbs ≤ 9223372036854775807) : impl_size.f a = some (a.natAbs : Int) := by
  unfold impl_size.f mx
  rw [w64 (by omega) (by omega)]
  split <;> congr 1 <;> omega
theorem common_is {a b : Int} (ha : a.natAbs ≤ 9223372036854775807) (hb : b.natAbs ≤ 9223372036854775807) : Ev (fun k => impl_common.f k a b) (Int.gcd a b : Int) := by
  refine Ev.congr (fun k => ?_) (common_loop b.natAbs a.natAbs)
  unfold impl_common.f
  rw [size_is ha, size_is hb]; rfl
theorem scommon_loop (n : Nat) : ∀ (b a : Int), b.natAbs = n → a.natAbs ≤ 9223372036854775807 → n ≤ 9223372036854775807 → Ev (fun k => spec_l01Gcd.l0 k a b) (Int.gcd a b : Int) := by
  induction n using Nat.strongRecOn with
  | _ n ih =>
    intro b a hb ha hn
    by_cases h0 : b = 0
    · subst h0
      refine Ev.step (f := fun _ => some (Int.gcd a 0 : Int)) (fun k => ?_) (Ev.now _)
      rw [spec_l01Gcd.l0, if_pos rfl, w64 (by omega) (by omega)]
      congr 1
      unfold mx
      rw [Int.gcd_zero_right]
      split <;> omega
    · have hm : (Int.tmod a b).natAbs = a.natAbs % b.natAbs := Int.natAbs_tmod a b
      have hl : a.natAbs % b.natAbs < b.natAbs := Nat.mod_lt _ (by omega)
      have hr := ih (Int.tmod a b).natAbs (by omega) (Int.tmod a b) b rfl (by omega) (by omega)
      have e : (Int.gcd b (Int.tmod a b) : Int) = (Int.gcd a b : Int) := by
        congr 1
        show Nat.gcd b.natAbs (Int.tmod a b).natAbs = Nat.gcd a.natAbs b.natAbs
        rw [hm, Nat.gcd_comm a.natAbs, Nat.gcd_rec b.natAbs a.natAbs, Nat.gcd_comm]
      rw [e] at hr
      refine Ev.step (fun k => ?_) hr
      simp only [spec_l01Gcd.l0]
      rw [if_neg h0]
theorem scommon_is {a b : Int} (ha : a.natAbs ≤ 9223372036854775807) (hb : b.natAbs ≤ 9223372036854775807) : Ev (fun k => spec_l01Gcd.f k a b) (Int.gcd a b : Int) := scommon_loop b.natAbs b a rfl ha hb
theorem sisfrac_is (a b : Int) (ha : a.natAbs ≤ 9223372036854775807) (hb : b.natAbs ≤ 9223372036854775807) : Ev (fun k => spec_l01IsFrac.f k a b) (decide (okF ⟨a, b⟩)) := by
  have hs : ∀ {c : Bool} {f : Nat → Option Bool}, (∀ k, f k = some c) → Ev f c := fun h => ⟨0, fun k _ => h k⟩
  by_cases c1 : 1 ≤ b ∧ b ≤ 1000000000
  · by_cases c2 : -1000000000 ≤ a ∧ a ≤ 1000000000
    · have h1 := Ev.bind (scommon_is ha hb) (f := fun _ t => some (t == 1)) (r := ((Int.gcd a b : Int) == 1)) (Ev.now _)
      have e : decide (okF ⟨a, b⟩) = ((Int.gcd a b : Int) == 1) := by
        simp only [okF, c1.1, c1.2, c2.1, c2.2, true_and]; rw [Bool.eq_iff_iff, decide_eq_true_iff, beq_iff_eq]; omega
      rw [e]
      refine Ev.congr (fun k => ?_) h1
      unfold spec_l01IsFrac.f spec_l01In.f
      rw [if_pos (by omega)]
      simp only [Option.bind_some]
      rw [if_pos (by simpa using c1.2), if_pos (by omega)]
      simp only [Option.bind_some]
      rw [if_pos (by simpa using c2.2)]
    · have e : decide (okF ⟨a, b⟩) = false := by
        rw [decide_eq_false_iff_not]; simp only [okF]; omega
      rw [e]
      refine hs fun k => ?_
      unfold spec_l01IsFrac.f spec_l01In.f
      rw [if_pos (by omega)]
      simp only [Option.bind_some]
      rw [if_pos (by simpa using c1.2)]
      by_cases c3 : a ≥ -1000000000
      · rw [if_pos c3]
        simp only [Option.bind_some]
        rw [if_neg (by simp; omega)]
      · rw [if_neg c3]; simp
  · have e : decide (okF ⟨a, b⟩) = false := by
      rw [decide_eq_false_iff_not]; simp only [okF]; omega
    rw [e]
    refine hs fun k => ?_
    unfold spec_l01IsFrac.f spec_l01In.f
    by_cases c3 : b ≥ 1
    · rw [if_pos c3]
      simp only [Option.bind_some]
      rw [if_neg (by simp; omega)]
    · rw [if_neg c3]; simp
end Go.Proofs.Ytaiefdhenikiiaa.Base
namespace Go.Proofs.Ytaiefdhenikiiaa.Base
open Go.RowKit Go.Proofs.YtaiefdhenikiiaaW.PrintWords Go.Proofs.YtaiefdhenikiiaaW.PrintLast Go.Proofs.YtaiefdhenikiiaaW.PrintMore
set_option linter.unusedVariables false
set_option linter.unusedSimpArgs false
def cT (x : S79) : List Value := [.string x.f0, .int .i64 x.f1.f0, .int .i64 x.f1.f1]
def cellsT (xs : List S79) : List Value := xs.flatMap cT
theorem cellsT_len (xs : List S79) : (cellsT xs).length = xs.length * 3 := by
  induction xs with
  | nil => rfl
  | cons x xs ih => simp only [cellsT, List.flatMap_cons, List.length_append, List.length_cons, cT, List.length_nil] at ih ⊢; omega
theorem cellsT_cons (x : S79) (xs : List S79) : cellsT (x :: xs) = .string x.f0 :: .int .i64 x.f1.f0 :: .int .i64 x.f1.f1 :: cellsT xs := rfl
theorem cellsT_at (xs : List S79) : ∀ (i : Nat) (h : i < xs.length), (cellsT xs)[i * 3]? = some (.string xs[i].f0) ∧ (cellsT xs)[i * 3 + 1]? = some (.int .i64 xs[i].f1.f0) ∧ (cellsT xs)[i * 3 + 2]? = some (.int .i64 xs[i].f1.f1) := by
  induction xs with
  | nil => intro i h; simp at h
  | cons x xs ih =>
    intro i h
    cases i with
    | zero => exact ⟨rfl, rfl, rfl⟩
    | succ i =>
      have := ih i (by simpa using h)
      rw [cellsT_cons, show (i + 1) * 3 = i * 3 + 1 + 1 + 1 by omega]
      exact this
theorem cellsT_set0 (xs : List S79) (s : ByteArray) : ∀ (i : Nat) (h : i < xs.length), (cellsT xs).set (i * 3) (.string s) = cellsT (xs.set i ⟨s, xs[i].f1⟩) := by
  induction xs with
  | nil => intro i h; simp at h
  | cons x xs ih =>
    intro i h
    cases i with
    | zero => rfl
    | succ i =>
      have := ih i (by simpa using h)
      rw [cellsT_cons, show (i + 1) * 3 = i * 3 + 1 + 1 + 1 by omega]
      simp only [List.set_cons_succ, this, List.getElem_cons_succ]
      rfl
theorem cellsT_set1 (xs : List S79) (n : Int) : ∀ (i : Nat) (h : i < xs.length), (cellsT xs).set (i * 3 + 1) (.int .i64 n) = cellsT (xs.set i ⟨xs[i].f0, ⟨n, xs[i].f1.f1⟩⟩) := by
  induction xs with
  | nil => intro i h; simp at h
  | cons x xs ih =>
    intro i h
    cases i with
    | zero => rfl
    | succ i =>
      have := ih i (by simpa using h)
      rw [cellsT_cons, show (i + 1) * 3 + 1 = i * 3 + 1 + 1 + 1 + 1 by omega]
      simp only [List.set_cons_succ, this, List.getElem_cons_succ]
      rfl
theorem cellsT_set2 (xs : List S79) (n : Int) : ∀ (i : Nat) (h : i < xs.length), (cellsT xs).set (i * 3 + 2) (.int .i64 n) = cellsT (xs.set i ⟨xs[i].f0, ⟨xs[i].f1.f0, n⟩⟩) := by
  induction xs with
  | nil => intro i h; simp at h
  | cons x xs ih =>
    intro i h
    cases i with
    | zero => rfl
    | succ i =>
      have := ih i (by simpa using h)
      rw [cellsT_cons, show (i + 1) * 3 + 2 = i * 3 + 2 + 1 + 1 + 1 by omega]
      simp only [List.set_cons_succ, this, List.getElem_cons_succ]
      rfl
theorem reps_cells {R : S79 → List Value → Prop} (hR : ∀ x cs, R x cs → cs = cT x) : ∀ (xs : List S79) (cs : List Value), Reps R 3 xs cs → cs = cellsT xs := by
  intro xs
  induction xs with
  | nil => intro cs h; have := h.1; simp at this; subst this; rfl
  | cons x xs ih =>
    intro cs h
    have h0 := hR _ _ (h.2 0 x rfl)
    rw [Nat.zero_mul, List.drop_zero] at h0
    have hl := h.1
    have h1 : Reps R 3 xs (cs.drop 3) := by
      refine ⟨by rw [List.length_drop, hl, List.length_cons]; omega, fun j p hp => ?_⟩
      have := h.2 (j + 1) p (by simpa using hp)
      rw [List.drop_drop, show 3 + j * 3 = (j + 1) * 3 by omega]
      exact this
    have h2 := ih _ h1
    rw [← List.take_append_drop 3 cs, h0, h2]
    rfl
theorem cells_reps {R : S79 → List Value → Prop} (hR : ∀ x, R x (cT x)) (xs : List S79) : Reps R 3 xs (cellsT xs) := by
  refine ⟨cellsT_len xs, fun j p hp => ?_⟩
  have : ((cellsT xs).drop (j * 3)).take 3 = cT p := by
    induction xs generalizing j with
    | nil => simp at hp
    | cons x xs ih =>
      cases j with
      | zero => obtain rfl : x = p := by simpa using hp
                rfl
      | succ j =>
        have := ih j (by simpa using hp)
        rw [cellsT_cons, show (j + 1) * 3 = j * 3 + 1 + 1 + 1 by omega]
        exact this
  rw [this]; exact hR p
section
variable {W W1 : World} {base g cap : Nat} {ok : Nat → Prop} {v : Value} {xs : List S79}
theorem ownT (h : Kd.R k79 79 W base ok v xs) : W.ownsRow base 79 3 v xs.length (cellsT xs) := by
  obtain ⟨h0, inner, ho, hr⟩ := h
  rw [← reps_cells (fun x cs hh => k79_openM hh) xs inner hr]
  exact ho
theorem of_ownT (h : W.ownsRow base 79 3 v xs.length (cellsT xs)) (hok : ∀ k, v.ownBlock = some k → ok k) : Kd.R k79 79 W base ok v xs :=
  ⟨hok, cellsT xs, h, cells_reps (fun x => k79_mkM _ _ _ x) xs⟩
theorem atT (h : Kd.R k79 79 W base ok (.slice (some ⟨g, 0, none⟩) xs.length cap) xs) (i : Nat) (hi : i < xs.length) :
    (W.cell? ⟨g, i * 3, none⟩ = some (.string xs[i].f0) ∧ W.cell? ⟨g, i * 3 + 1, none⟩ = some (.int .i64 xs[i].f1.f0) ∧ W.cell? ⟨g, i * 3 + 2, none⟩ = some (.int .i64 xs[i].f1.f1)) ∧ W.frozen? ⟨g, i * 3, none⟩ = false ∧ W.frozen? ⟨g, i * 3 + 1, none⟩ = false ∧ W.frozen? ⟨g, i * 3 + 2, none⟩ = false := by
  have ho := ownT h
  obtain ⟨c0, c1, c2⟩ := cellsT_at xs i hi
  exact ⟨⟨(ho.cellAt _ (by omega)).trans c0, (ho.cellAt _ (by omega)).trans c1, (ho.cellAt _ (by omega)).trans c2⟩, ho.frozenAt _, ho.frozenAt _, ho.frozenAt _⟩
theorem put0 {m : Nat} (h : Kd.R k79 79 W base ok (.slice (some ⟨g, 0, none⟩) m cap) xs) (i : Nat) (hi : i < xs.length) (hm : xs.length = m) (s : ByteArray) :
    Kd.R k79 79 (W.setCell ⟨g, i * 3, none⟩ (.string s)) base ok (.slice (some ⟨g, 0, none⟩) m cap) (xs.set i ⟨s, xs[i].f1⟩) ∧ W.grownBy (W.setCell ⟨g, i * 3, none⟩ (.string s)) (some g) := by
  subst hm
  have hs := (ownT h).stored (i * 3) (.string s)
  rw [cellsT_set0 xs s i hi] at hs
  exact ⟨of_ownT (by rw [List.length_set]; exact hs.1) h.1, hs.2⟩
theorem put1 {m : Nat} (h : Kd.R k79 79 W base ok (.slice (some ⟨g, 0, none⟩) m cap) xs) (i : Nat) (hi : i < xs.length) (hm : xs.length = m) (n : Int) :
    Kd.R k79 79 (W.setCell ⟨g, i * 3 + 1, none⟩ (.int .i64 n)) base ok (.slice (some ⟨g, 0, none⟩) m cap) (xs.set i ⟨xs[i].f0, ⟨n, xs[i].f1.f1⟩⟩) ∧ W.grownBy (W.setCell ⟨g, i * 3 + 1, none⟩ (.int .i64 n)) (some g) := by
  subst hm
  have hs := (ownT h).stored (i * 3 + 1) (.int .i64 n)
  rw [cellsT_set1 xs n i hi] at hs
  exact ⟨of_ownT (by rw [List.length_set]; exact hs.1) h.1, hs.2⟩
theorem put2 {m : Nat} (h : Kd.R k79 79 W base ok (.slice (some ⟨g, 0, none⟩) m cap) xs) (i : Nat) (hi : i < xs.length) (hm : xs.length = m) (n : Int) :
    Kd.R k79 79 (W.setCell ⟨g, i * 3 + 2, none⟩ (.int .i64 n)) base ok (.slice (some ⟨g, 0, none⟩) m cap) (xs.set i ⟨xs[i].f0, ⟨xs[i].f1.f0, n⟩⟩) ∧ W.grownBy (W.setCell ⟨g, i * 3 + 2, none⟩ (.int .i64 n)) (some g) := by
  subst hm
  have hs := (ownT h).stored (i * 3 + 2) (.int .i64 n)
  rw [cellsT_set2 xs n i hi] at hs
  exact ⟨of_ownT (by rw [List.length_set]; exact hs.1) h.1, hs.2⟩
end
end Go.Proofs.Ytaiefdhenikiiaa.Base
namespace Go.Proofs.Ytaiefdhenikiiaa.Base
open Go.RowKit Go.Proofs.YtaiefdhenikiiaaW.PrintWords Go.Proofs.YtaiefdhenikiiaaW.PrintLast Go.Proofs.YtaiefdhenikiiaaW.PrintMore
attribute [local go_sem] max2_int min2_int max_two min_two max_three min_three max_four min_four Go.Proofs.YtaiefdhenikiiaaZ.min2_string   -- for this text's walks alone
set_option linter.unusedVariables false
set_option linter.unusedSimpArgs false
def laws_markTermS.l0 : Nat → List S79 → Int → Nat → Option (Int × List S79)
  | 0, _, _, _ => none
  | k + 1, x, a, i => if i < x.length then ((laws_markText.f k a).bind fun s => laws_markTermS.l0 k (x.set i ⟨s, ⟨wrap64 (a + 1), wrap64 (wrap64 (a + 1) + 1)⟩⟩) (wrap64 (wrap64 (wrap64 (a + 1) + 1) + 1)) (i + 1)) else some (a, x)
def laws_markTermS.f (k : Nat) (l0 : List S79) (a1 : Int) : Option (Int × List S79) := laws_markTermS.l0 k l0 a1 0
theorem laws_markTermS.mono_l : ∀ k y0 y1 y2, LeO (laws_markTermS.l0 k y0 y1 y2) (laws_markTermS.l0 (k + 1) y0 y1 y2)
  | 0, _, _, _ => fun r h => by simp [laws_markTermS.l0] at h
  | k + 1, y0, y1, y2 => by
    unfold laws_markTermS.l0
    exact LeO.ite (LeO.bind (laws_markText.mono _ _) (fun _ => laws_markTermS.mono_l k _ _ _)) (LeO.refl _)
theorem laws_markTermS.mono : ∀ a0 a1 k, LeO (laws_markTermS.f k a0 a1) (laws_markTermS.f (k + 1) a0 a1) := fun a0 a1 k => laws_markTermS.mono_l k _ _ _
set_option maxHeartbeats 8000000 in
set_option maxRecDepth 100000 in
theorem laws_markTermS.calls (k : Nat) (P0_ : Nat → Prop) (u9000_ : Value) (l0 : List S79) (a1 : Int) (r1 : Int) (r2 : List S79) (w0 w : World) (hB : Below w0.heap.size w0 w) (ho0 : Kd.R k79 79 w w0.heap.size P0_ u9000_ l0) (h : laws_markTermS.f k l0 a1 = some (r1, r2)) :
    Calls Try.prog 26 #[u9000_, .int .i64 a1] w fun e w' => e = .returned (.int .i64 r1) ∧ Kd.R k79 79 w' w0.heap.size (fun k_ => (P0_ k_ ∨ w.heap.size ≤ k_)) u9000_ r2 ∧ Below w0.heap.size w0 w' ∧ Kept w w' (fun k_ => P0_ k_) := by
  have hu79 := Try.underlying79
  have hu77 := Try.underlying77
  have HO0 := Aside0.mk (show Kd.R k79 79 w w0.heap.size (fun k_ => (P0_ k_ ∨ w.heap.size ≤ k_)) u9000_ l0 from Kd.R_mono ho0 (fun k_ hk => (.inl hk)))
  have HP0 := Aside0.mk ho0
  have HK := Aside0.mk (Kept.refl w (fun k_ => P0_ k_))
  have HB := Aside0.mk hB
  obtain ⟨A, cap, rfl⟩ := Kd.R_slice ho0
  have HLL := Aside0.mk (show l0.length ≤ maxLen from by
    obtain ⟨_, h2⟩ := ownT ho0
    rcases h2 with ⟨_, h3⟩ | ⟨_, _, _, _, _, _, h4, h5, _⟩
    · rw [h3]; exact Nat.zero_le _
    · exact Nat.le_trans h4 h5)
  clear hB ho0
  have H' := Aside0.mk (show laws_markTermS.l0 k l0 a1 0 = some (r1, r2) from h)
  clear h
  go_enter Try.func26, Try.ntmps26
  go_wp2
  go_loopg [1, 5] k (fun kq v1 v5 w' => ∃ (x : List S79) (a : Int) (i : Nat), v1 = .int .i64 a ∧ v5 = .int .i64 i ∧ Aside0 (x.length = l0.length) ∧ Aside0 (i ≤ l0.length) ∧ Aside0 (laws_markTermS.l0 kq x a i = some (r1, r2)) ∧ Aside0 (kq ≤ k) ∧ Aside0 (Kd.R k79 79 w' w0.heap.size (fun k_ => (P0_ k_ ∨ w.heap.size ≤ k_)) (.slice A l0.length cap) x) ∧ Aside0 (Kept w w' (fun k_ => P0_ k_)) ∧ Aside0 (Below w0.heap.size w0 w'))
  case atStart => exact ⟨l0, a1, 0, rfl, rfl, ⟨rfl⟩, ⟨Nat.zero_le _⟩, H', ⟨Nat.le_refl _⟩, HO0, HK, HB⟩
  case round =>
    clear H' HO0
    obtain ⟨x, a, i, rfl, rfl, HXL, HIL, HA, HK1, HO, HK, HB⟩ := hrel
    cases gk with
    | zero => exact absurd HA.out (by simp [laws_markTermS.l0])
    | succ k1 =>
      have H := HA.out
      clear HA
      simp only [laws_markTermS.l0] at H
      by_cases c : i < x.length
      · rw [if_pos c] at H
        obtain ⟨s, hs, H⟩ := Option.bind_eq_some_iff.mp H
        have hlt : (i : Int) < (l0.length : Int) := by have := HXL.out; omega
        obtain ⟨g, cp, e_, gb, gl, cl, hg⟩ := Kd.R_form HO.out (by omega)
        have HM := Aside0.mk (show P0_ g ∨ w.heap.size ≤ g from HO.out.1 _ (by rw [e_]; simp [Value.ownBlock]))
        obtain ⟨rfl⟩ : A = some ⟨g, 0, none⟩ := by injection e_
        have HS := Aside0.mk hs
        have HN := Aside0.mk H
        have HGB := Aside0.mk gb
        have HC := Aside0.mk c
        have HO1 := Aside0.mk (show Kd.R k79 79 wr w0.heap.size (fun k_ => (P0_ k_ ∨ w.heap.size ≤ k_)) (.slice (some ⟨g, 0, none⟩) x.length cap) x by rw [HXL.out]; exact HO.out)
        clear hs H e_ gb gl hg HO c
        go_wp2_with (go_at_call 81; refine (laws_markText.calls k1 _ _ _ HS.out).mono ?_; rintro e w2 ⟨rfl, hb⟩; have O2 := Kd.R_below HO1.out hb; obtain ⟨⟨c0, c1, c2⟩, f0, f1, f2⟩ := atT O2 i HC.out; have HO2 := Aside0.mk O2; have HB2 := Aside0.mk (below_step HB.out hb); have HK2 := Aside0.mk (Kept.of_below hb (fun k_ => P0_ k_)); clear O2 hb)
        go_roundg k1
        case measure => have := HK1.out; omega
        case rel =>
          have q0 := (put0 HO2.out i HC.out rfl s).1
          have q1 := (put1 q0 i (by rw [List.length_set]; exact HC.out) (by rw [List.length_set]) (wrap64 (a + 1))).1
          have q2 := (put2 q1 i (by rw [List.length_set, List.length_set]; exact HC.out) (by rw [List.length_set, List.length_set]) (wrap64 (wrap64 (a + 1) + 1))).1
          simp only [List.getElem_set_self, List.set_set] at q2
          refine ⟨x.set i ⟨s, ⟨wrap64 (a + 1), wrap64 (wrap64 (a + 1) + 1)⟩⟩, _, i + 1, rfl, ?_, ⟨by rw [List.length_set]; exact HXL.out⟩, ⟨by have := HXL.out; have := HC.out; omega⟩, HN, ⟨by have := HK1.out; omega⟩, ⟨?_⟩, ⟨?_⟩, ⟨?_⟩⟩
          · rw [w64 (by omega) (by have h1 := HLL.out; have h2 := HXL.out; have h3 := HC.out; simp only [maxLen] at h1; omega)]; rfl
          · rw [HXL.out] at q2; exact q2
          · exact ((((Kept.then_ HK.out HK2.out (fun _ h_ => .inl h_)).setCell HM.out _).setCell HM.out _).setCell HM.out _)
          · exact ((HB2.out.setCell HGB.out _).setCell HGB.out _).setCell HGB.out _
      · rw [if_neg c] at H
        have HH := Aside0.mk (Option.some.inj H)
        have hlt : ¬ (i : Int) < (l0.length : Int) := by have := HXL.out; omega
        clear H c
        go_wp2
        go_ret
        have h1 : a = r1 := congrArg Prod.fst HH.out
        have h2 : x = r2 := congrArg Prod.snd HH.out
        subst h1 h2
        exact ⟨rfl, HO.out, HB.out, HK.out⟩
end Go.Proofs.Ytaiefdhenikiiaa.Base
namespace Go.Proofs.Ytaiefdhenikiiaa.Base
open Go.RowKit Go.Proofs.YtaiefdhenikiiaaW.PrintWords Go.Proofs.YtaiefdhenikiiaaW.PrintLast Go.Proofs.YtaiefdhenikiiaaW.PrintMore
set_option linter.unusedVariables false
set_option linter.unusedSimpArgs false
theorem w64m {x : Int} (h0 : -9223372036854775808 ≤ x) (h1 : x ≤ 9223372036854775807) : wrap64 x = x := by unfold wrap64; omega
theorem text_l0 (n : Nat) : ∀ (k : Nat) (s : ByteArray), k < n → k + s.size ≤ 1000000000000 → ∃ t, Ev (fun q => laws_markText.l0 q (k : Int) s) t := by
  induction n with
  | zero => intro k s h; omega
  | succ n ih =>
    intro k s hk hs
    by_cases c : k = 0
    · refine ⟨_, Ev.step (f := fun _ => some ((⟨#[109]⟩ : ByteArray) ++ s)) (fun q => ?_) (Ev.now _)⟩
      simp only [laws_markText.l0]
      rw [if_neg (by omega), if_pos (by omega)]
    · obtain ⟨t, ht⟩ := ih (k / 10) (strOfNums [wrap64 (48 + Int.tmod (k : Int) 10) % 256] ++ s) (by omega) (by rw [ByteArray.size_append, strOfNums_size]; simp only [List.length_cons, List.length_nil]; omega)
      refine ⟨t, Ev.step (fun q => ?_) ht⟩
      simp only [laws_markText.l0]
      have e : wrap64 (Int.tdiv (k : Int) 10) = ((k / 10 : Nat) : Int) := by
        rw [Int.tdiv_eq_ediv_of_nonneg (by omega)]
        rw [w64m (by omega) (by omega)]; omega
      rw [if_pos (by omega)]
      simp only [Option.bind_some]
      rw [if_pos (by rw [strOfNums_size]; simp only [List.length_cons, List.length_nil]; omega), e]
theorem text_ends (k : Nat) (hk : k ≤ 1000000000) : ∃ t, Ev (fun q => laws_markText.f q (k : Int)) t := by
  by_cases c : k = 0
  · exact ⟨_, Ev.congr (f := fun _ => some (⟨#[109, 48]⟩ : ByteArray)) (fun q => by unfold laws_markText.f; rw [if_pos (by omega)]) (Ev.now _)⟩
  · obtain ⟨t, ht⟩ := text_l0 (k + 1) k (⟨#[]⟩ : ByteArray) (by omega) (by show k + 0 ≤ _; omega)
    refine ⟨t, Ev.congr (fun q => ?_) ht⟩
    unfold laws_markText.f; rw [if_neg (by omega)]
theorem rd79 (l : List S79) (j : Nat) (h : j < l.length) : rd_T79 l (j : Int) = l[j] := by simp [rd_T79, List.getD_eq_getElem?_getD, List.getElem?_eq_getElem h]
theorem rd75 (l : List S75) (j : Nat) (h : j < l.length) : rd_T75 l (j : Int) = l[j] := by simp [rd_T75, List.getD_eq_getElem?_getD, List.getElem?_eq_getElem h]
/-- Marks. -/
theorem marksT_ends (n m : Nat) : ∀ (j k0 : Nat) (l : List S79), j + m = n → l.length = n → n ≤ 2000000 → k0 + 3 * m ≤ 100000000 →
    ∃ l' : List S79, l'.length = n ∧ (∀ i, i < j → l'[i]? = l[i]?) ∧ Ev (fun q => laws_markTermS.l0 q l (k0 : Int) j) (((k0 + 3 * m : Nat) : Int), l') ∧ Ev (fun q => laws_heldTermS.l0 q l' (k0 : Int) (j : Int)) ((k0 + 3 * m : Nat) : Int) := by
  induction m with
  | zero =>
    intro j k0 l hj hl hn hk
    refine ⟨l, hl, fun _ _ => rfl, Ev.step (f := fun _ => some ((k0 : Int), l)) (fun q => ?_) ?_, Ev.step (f := fun _ => some (k0 : Int)) (fun q => ?_) ?_⟩
    · simp only [laws_markTermS.l0]; rw [if_neg (by omega)]
    · exact Ev.now _
    · simp only [laws_heldTermS.l0]; rw [if_neg (by omega)]
    · exact Ev.now _
  | succ m ih =>
    intro j k0 l hj hl hn hk
    have hlt : j < l.length := by omega
    obtain ⟨t, ht⟩ := text_ends k0 (by omega)
    obtain ⟨x, hx⟩ : ∃ x : S79, x = ⟨t, ⟨((k0 + 1 : Nat) : Int), ((k0 + 2 : Nat) : Int)⟩⟩ := ⟨_, rfl⟩
    obtain ⟨l', h1, h2, h3, h4⟩ := ih (j + 1) (k0 + 3) (l.set j x) (by omega) (by rw [List.length_set]; exact hl) hn (by omega)
    have e1 : wrap64 ((k0 : Int) + 1) = ((k0 + 1 : Nat) : Int) := by rw [w64m (by omega) (by omega)]; rfl
    have e2 : wrap64 (((k0 + 1 : Nat) : Int) + 1) = ((k0 + 2 : Nat) : Int) := by rw [w64m (by omega) (by omega)]; rfl
    have e3 : wrap64 (((k0 + 2 : Nat) : Int) + 1) = ((k0 + 3 : Nat) : Int) := by rw [w64m (by omega) (by omega)]; rfl
    have ej : wrap64 ((j : Int) + 1) = ((j + 1 : Nat) : Int) := by rw [w64m (by omega) (by omega)]; rfl
    rw [show k0 + 3 + 3 * m = k0 + 3 * (m + 1) by omega] at h3 h4
    have hj' : l'[j]? = some x := by rw [h2 j (by omega), List.getElem?_set_self hlt]
    refine ⟨l', h1, fun i hi => ?_, ?_, ?_⟩
    · rw [h2 i (by omega), List.getElem?_set_ne (by omega)]
    · refine Ev.step (f := fun q => (laws_markText.f q (k0 : Int)).bind fun t => laws_markTermS.l0 q (l.set j ⟨t, ⟨((k0 + 1 : Nat) : Int), ((k0 + 2 : Nat) : Int)⟩⟩) ((k0 + 3 : Nat) : Int) (j + 1)) (fun q => ?_) (Ev.bind ht (by rw [← hx]; exact h3))
      simp only [laws_markTermS.l0]
      rw [if_pos hlt, e1, e2, e3]
    · have hjl : j < l'.length := by omega
      have hr : rd_T79 l' (j : Int) = x := by rw [rd79 l' j hjl]; rw [List.getElem?_eq_getElem hjl] at hj'; exact Option.some.inj hj'
      refine Ev.step (f := fun q => (laws_markText.f q (k0 : Int)).bind fun t2 => if x.f0.toList = t2.toList then laws_heldTermS.l0 q l' ((k0 + 3 : Nat) : Int) ((j + 1 : Nat) : Int) else some (-1)) (fun q => ?_) (Ev.bind ht ?_)
      · simp only [laws_heldTermS.l0]
        rw [if_pos (by omega), if_pos (by omega), e1, e2, e3, ej, hr, hx]
        simp only [if_true]
      · rw [hx]; simp only [if_true]
        exact h4
theorem marksT (l : List S79) (hl : l.length ≤ 2000000) : ∃ l' : List S79, l'.length = l.length ∧ Ev (fun q => laws_markTermS.f q l 1) (((1 + 3 * l.length : Nat) : Int), l') ∧ Ev (fun q => laws_heldTermS.f q l' 1) ((1 + 3 * l.length : Nat) : Int) := by
  obtain ⟨l', h1, _, h3, h4⟩ := marksT_ends l.length l.length 0 1 l (by omega) rfl hl (by omega)
  exact ⟨l', h1, h3, h4⟩
theorem eqTerm_same (x : S79) : laws_eqTerm.f x.f0 x.f1.f0 x.f1.f1 x.f0 x.f1.f0 x.f1.f1 = some true := by
  unfold laws_eqTerm.f laws_eqFraction.f
  simp
theorem eqT_loop (l : List S79) (hl : l.length ≤ 2000000) (m : Nat) : ∀ j : Nat, j + m = l.length → Ev (fun q => laws_eqTermS.l0 q l l (j : Int)) true := by
  induction m with
  | zero =>
    intro j hj
    refine Ev.step (f := fun _ => some true) (fun q => ?_) (Ev.now _)
    simp only [laws_eqTermS.l0]; rw [if_neg (by omega)]
  | succ m ih =>
    intro j hj
    refine Ev.step (fun q => ?_) (ih (j + 1) (by omega))
    simp only [laws_eqTermS.l0]
    rw [if_pos (by omega), if_pos (by omega), if_pos (by omega), w64m (x := (j : Int) + 1) (by omega) (by omega), eqTerm_same]
    simp only [Option.bind_some, if_true]; rfl
theorem eqT_same (l : List S79) (hl : l.length ≤ 2000000) : Ev (fun q => laws_eqTermS.f q l l) true := by
  refine Ev.congr (fun q => ?_) (eqT_loop l hl l.length 0 (by omega))
  unfold laws_eqTermS.f; rw [if_pos rfl]; rfl
/-- A law's term as_ the program's. -/
def toX (x : S75) : S79 := ⟨x.f0, ⟨x.f1.f0, x.f1.f1⟩⟩
def toTo (l : List S75) (j : Nat) : List S79 := (l.take j).map toX ++ List.replicate (l.length - j) z79
theorem toT_loop (l : List S75) (hl : l.length ≤ 2000000) (m : Nat) : ∀ j : Nat, j + m = l.length → Ev (fun q => laws_toTermS.l0 q l (toTo l j) (j : Int)) (l.map toX) := by
  induction m with
  | zero =>
    intro j hj
    refine Ev.step (f := fun _ => some (l.map toX)) (fun q => ?_) (Ev.now _)
    simp only [laws_toTermS.l0]; rw [if_neg (by omega)]
    unfold toTo
    rw [show j = l.length by omega, List.take_length, Nat.sub_self, List.replicate_zero, List.append_nil]
  | succ m ih =>
    intro j hj
    refine Ev.step (fun q => ?_) (ih (j + 1) (by omega))
    have hjl : j < l.length := by omega
    have hlen : (toTo l j).length = l.length := by unfold toTo; rw [List.length_append, List.length_map, List.length_take, List.length_replicate]; omega
    have hset : (toTo l j).set j (toX l[j]) = toTo l (j + 1) := by
      unfold toTo
      have h1 : ((l.take j).map toX).length = j := by rw [List.length_map, List.length_take]; omega
      rw [List.set_append_right _ _ (by omega), h1, Nat.sub_self, show l.length - j = (l.length - (j + 1)) + 1 by omega, List.replicate_succ, List.set_cons_zero, List.take_succ_eq_append_getElem hjl, List.map_append]
      simp
    simp only [laws_toTermS.l0]
    rw [if_pos (by omega), if_pos (by omega)]
    unfold laws_toTerm.f laws_toFraction.f
    simp only [Option.bind_some]
    rw [if_pos (by omega), w64m (x := (j : Int) + 1) (by omega) (by omega), rd75 l j hjl, Int.toNat_natCast]
    show laws_toTermS.l0 q l ((toTo l j).set j (toX l[j])) _ = _
    rw [hset]; rfl
theorem toT_is (l : List S75) (hl : l.length ≤ 2000000) : Ev (fun q => laws_toTermS.f q l) (l.map toX) := by
  refine Ev.congr (fun q => ?_) (toT_loop l hl l.length 0 (by omega))
  unfold laws_toTermS.f
  rw [if_pos (by omega), if_pos (by omega)]
  rfl
/-- The sizes of what came in. -/
theorem sz_loop (l : List S75) (hl : l.length ≤ 2000000) (hw : ∀ x ∈ l, x.f0.size ≤ 9223372036854775807) (m : Nat) : ∀ (j : Nat) (left : Int), j + m = l.length → 0 ≤ left → left ≤ 1048576 →
    ∃ v, Ev (fun q => laws_szTermS.l0 q l left (j : Int)) v ∧ (0 ≤ v → ∀ i (h : i < l.length), j ≤ i → (l[i].f0.size : Int) ≤ 1048576) := by
  induction m with
  | zero =>
    intro j left hj h0 h1
    refine ⟨left, Ev.step (f := fun _ => some left) (fun q => ?_) (Ev.now _), fun _ i h hi => by omega⟩
    simp only [laws_szTermS.l0]; rw [if_neg (by omega)]
  | succ m ih =>
    intro j left hj h0 h1
    have hjl : j < l.length := by omega
    have hs := hw l[j] (List.getElem_mem hjl)
    have ew : wrap64 (left - (l[j].f0.size : Int)) = left - (l[j].f0.size : Int) := w64m (by omega) (by omega)
    by_cases c : left - (l[j].f0.size : Int) < 0
    · refine ⟨-1, Ev.step (f := fun _ => some (-1)) (fun q => ?_) (Ev.now _), fun h => by omega⟩
      simp only [laws_szTermS.l0]
      rw [if_pos (by omega), if_pos (by omega), rd75 l j hjl]
      unfold laws_szTerm.f
      rw [ew, if_pos c]
      simp only [Option.bind_some]
      rw [if_pos (by omega)]
    · obtain ⟨v, h2, h3⟩ := ih (j + 1) (left - (l[j].f0.size : Int)) (by omega) (by omega) (by omega)
      refine ⟨v, Ev.step (fun q => ?_) h2, fun hv i hi hji => ?_⟩
      · simp only [laws_szTermS.l0]
        rw [if_pos (by omega), if_pos (by omega), rd75 l j hjl]
        unfold laws_szTerm.f
        rw [ew, if_neg c]
        simp only [Option.bind_some]
        rw [if_neg c, w64m (x := (j : Int) + 1) (by omega) (by omega)]
        rfl
      · by_cases e : i = j
        · subst e; omega
        · exact h3 hv i hi (by omega)
theorem sz_is (l : List S75) (hn : l.length ≤ 9223372036854775807) (hw : ∀ x ∈ l, x.f0.size ≤ 9223372036854775807) (left : Int) (h0 : 0 ≤ left) (h1 : left ≤ 1048576) :
    ∃ v, Ev (fun q => laws_szTermS.f q l left) v ∧ (0 ≤ v → l.length ≤ 1048576 ∧ ∀ x ∈ l, x.f0.size ≤ 1048576) := by
  have ew : wrap64 (left - (l.length : Int)) = left - (l.length : Int) := w64m (by omega) (by omega)
  by_cases c : left - (l.length : Int) < 0
  · refine ⟨-1, Ev.congr (f := fun _ => some (-1)) (fun q => ?_) (Ev.now _), fun h => by omega⟩
    unfold laws_szTermS.f; rw [ew, if_pos c]
  · obtain ⟨v, h2, h3⟩ := sz_loop l (by omega) hw l.length 0 (left - (l.length : Int)) (by omega) (by omega) (by omega)
    refine ⟨v, Ev.congr (fun q => ?_) h2, fun hv => ⟨by omega, fun x hx => ?_⟩⟩
    · unfold laws_szTermS.f; rw [ew, if_neg c]; rfl
    · obtain ⟨i, hi, rfl⟩ := List.mem_iff_getElem.1 hx
      have := h3 hv i hi (Nat.zero_le _)
      omega
end Go.Proofs.Ytaiefdhenikiiaa.Base
