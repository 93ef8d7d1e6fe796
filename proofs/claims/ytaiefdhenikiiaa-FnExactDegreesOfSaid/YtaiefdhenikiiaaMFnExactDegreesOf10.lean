/- Texts that the proof of FnExactDegreesOf needs, part 10. No condition. -/
import Derived.Test.YtaiefdhenikiiaaMFnExactDegreesOf9
import Derived.Deep.RegionLaw
namespace Go.Proofs.Ytaiefdhenikiiaa.Base
open Go.RowKit Go.Proofs.YtaiefdhenikiiaaW.PrintWords Go.Proofs.YtaiefdhenikiiaaW.PrintLast Go.Proofs.YtaiefdhenikiiaaW.PrintMore
set_option linter.unusedVariables false
set_option linter.unusedSimpArgs false
/-- A series that is a variable in block b. -/
def SrAt (W : World) (b : Nat) (d n : Int) (v : Value) : Prop := W.heap[b]? = some (.cells #[.int .i64 d, .int .i64 n, v] 38 (0, 0))
section
variable {W W' w w' : World} {b : Nat} {d n : Int} {v : Value}
theorem SrAt.c0 (H : SrAt W b d n v) : W.cell? ⟨b, 0, none⟩ = some (.int .i64 d) := blk_cell H 0
theorem SrAt.c1 (H : SrAt W b d n v) : W.cell? ⟨b, 1, none⟩ = some (.int .i64 n) := blk_cell H 1
theorem SrAt.c2 (H : SrAt W b d n v) : W.cell? ⟨b, 2, none⟩ = some v := blk_cell H 2
theorem SrAt.below (H : SrAt W b d n v) (hb : Below W.heap.size W W') : SrAt W' b d n v := blk_below H hb
theorem SrAt.alloc (H : SrAt W b d n v) (o : Obj) : SrAt (W.alloc o) b d n v := old_at H
theorem SrAt.drew (H : SrAt W b d n v) : SrAt W.drew b d n v := H
theorem SrAt.drewN (H : SrAt W b d n v) (m : Nat) : SrAt (W.drewN m) b d n v := H
theorem SrAt.put (H : SrAt W b d n v) (u : Value) : SrAt (W.setCell ⟨b, 2, none⟩ u) b d n u := blk_set H 2 u
theorem SrAt.grown (H : SrAt W b d n v) {row : Option Nat} (hg : W.grownBy W' row) (hne : some b ≠ row) : SrAt W' b d n v := blk_grown H hg hne
end
end Go.Proofs.Ytaiefdhenikiiaa.Base
namespace Go.Proofs.Ytaiefdhenikiiaa.Base
open Go.RowKit Go.Proofs.YtaiefdhenikiiaaW.PrintWords Go.Proofs.YtaiefdhenikiiaaW.PrintLast Go.Proofs.YtaiefdhenikiiaaW.PrintMore
set_option linter.unusedVariables false
set_option linter.unusedSimpArgs false
/-- The digits of a text. -/
def decW (s : ByteArray) : List Nat := s.data.toList.map fun b => b.toNat - 48
/-- Is the text a word of a table? -/
def isWd (d n : Nat) (s : ByteArray) : Prop := encW (decW s) = s ∧ isD d n (decW s)
/-- Terms of a series. -/
def okTs (d n : Nat) (l : List S79) : Prop := ∀ x ∈ l, isWd d n x.f0 ∧ okF x.f1
section
variable {W W' : World} {b : Nat} {x : S79}
end
end Go.Proofs.Ytaiefdhenikiiaa.Base
namespace Go.Proofs.Ytaiefdhenikiiaa.Base
open Go.RowKit Go.Proofs.YtaiefdhenikiiaaW.PrintWords Go.Proofs.YtaiefdhenikiiaaW.PrintLast Go.Proofs.YtaiefdhenikiiaaW.PrintMore
set_option linter.unusedVariables false
set_option linter.unusedSimpArgs false
theorem w64r {x : Int} (h0 : -9223372036854775808 ≤ x) (h1 : x ≤ 9223372036854775807) : wrap64 x = x := by unfold wrap64; omega
def total (l : List (List Int)) : Nat := (l.map List.length).sum
theorem sameRow (l : List Int) (hl : l.length ≤ 1048576) (m : Nat) : ∀ j : Nat, j + m = l.length → Ev (fun k => laws_eqInt64S.l0 k l l (j : Int)) true := by
  induction m with
  | zero =>
    intro j hj
    refine Ev.step (f := fun _ => some true) (fun k => ?_) (Ev.now _)
    simp only [laws_eqInt64S.l0]; rw [if_neg (by omega)]
  | succ m ih =>
    intro j hj
    refine Ev.step (fun k => ?_) (ih (j + 1) (by omega))
    simp only [laws_eqInt64S.l0]
    rw [if_pos (by omega), if_pos (by omega), if_pos (by omega), w64r (x := (j : Int) + 1) (by omega) (by omega)]; simp only [if_true]; rfl
theorem same_row (l : List Int) (hl : l.length ≤ 1048576) : Ev (fun k => laws_eqInt64S.f k l l) true := by
  refine Ev.congr (fun k => ?_) (sameRow l hl l.length 0 (by omega))
  unfold laws_eqInt64S.f; rw [if_pos rfl]; rfl
theorem sameRows (l : List (List Int)) (hl : l.length ≤ 1048576) (hr : ∀ r ∈ l, r.length ≤ 1048576) (m : Nat) : ∀ j : Nat, j + m = l.length → Ev (fun k => laws_eqInt64SS.l0 k l l (j : Int)) true := by
  induction m with
  | zero =>
    intro j hj
    refine Ev.step (f := fun _ => some true) (fun k => ?_) (Ev.now _)
    simp only [laws_eqInt64SS.l0]; rw [if_neg (by omega)]
  | succ m ih =>
    intro j hj
    have hlt : j < l.length := by omega
    have e3 : rd_L7 l (j : Int) = l[j] := by simp [rd_L7, List.getElem?_eq_getElem hlt]
    refine Ev.step (f := fun k => (laws_eqInt64S.f k l[j] l[j]).bind fun t => if t = true then laws_eqInt64SS.l0 k l l ((j + 1 : Nat) : Int) else some false) (fun k => ?_) (Ev.bind (same_row l[j] (hr _ (List.getElem_mem hlt))) ?_)
    · simp only [laws_eqInt64SS.l0]
      rw [if_pos (by omega), if_pos (by omega), if_pos (by omega), e3, w64r (x := (j : Int) + 1) (by omega) (by omega)]; rfl
    · simp only [if_true]
      exact ih (j + 1) (by omega)
theorem same_rows (l : List (List Int)) (hl : l.length ≤ 1048576) (hr : ∀ r ∈ l, r.length ≤ 1048576) : Ev (fun k => laws_eqInt64SS.f k l l) true := by
  refine Ev.congr (fun k => ?_) (sameRows l hl hr l.length 0 (by omega))
  unfold laws_eqInt64SS.f; rw [if_pos rfl]; rfl
theorem total_le (n : Nat) (l : List (List Int)) (h : ∀ r ∈ l, r.length ≤ n) : total l ≤ l.length * n := by
  induction l with
  | nil => simp [total]
  | cons a l ih =>
    have h1 := h a List.mem_cons_self
    have h2 := ih (fun r hr => h r (List.mem_cons_of_mem _ hr))
    simp only [total, List.map_cons, List.sum_cons, List.length_cons, Nat.add_mul, Nat.one_mul] at h2 ⊢
    omega
theorem step_set {α : Type} (A B : List α) (h : A.length = B.length) (j : Nat) (hj : j < A.length) : (A.take j ++ B.drop j).set j A[j] = A.take (j + 1) ++ B.drop (j + 1) := by
  have hjB : j < B.length := by omega
  rw [List.set_append, if_neg (by simp; omega)]
  simp only [List.length_take, Nat.min_eq_left (Nat.le_of_lt hj), Nat.sub_self]
  rw [List.drop_eq_getElem_cons hjB, List.set_cons_zero, List.take_succ_eq_append_getElem hj, List.append_assoc]; rfl
def nums (k0 : Int) (n : Nat) : List Int := (List.range n).map fun j => k0 + (j : Nat)
theorem nums_len (k0 : Int) (n : Nat) : (nums k0 n).length = n := by simp [nums]
theorem nums_at (k0 : Int) (n j : Nat) (h : j < (nums k0 n).length) : (nums k0 n)[j] = k0 + (j : Nat) := by simp [nums]
theorem markI_loop (l : List Int) (k0 : Int) (h0 : 0 ≤ k0) (h1 : k0 + l.length ≤ 1152921504606846976) (m : Nat) : ∀ j : Nat, j + m = l.length →
    Ev (fun q => laws_markInt64S.l0 q ((nums k0 l.length).take j ++ l.drop j) (k0 + j) (j : Int)) (k0 + l.length, nums k0 l.length) := by
  induction m with
  | zero =>
    intro j hj
    refine Ev.step (f := fun _ => some (k0 + l.length, nums k0 l.length)) (fun q => ?_) (Ev.now _)
    simp only [laws_markInt64S.l0]
    rw [if_neg (by simp [nums_len]; omega), show j = l.length by omega, List.drop_length, List.append_nil, List.take_of_length_le (by rw [nums_len]; omega)]
  | succ m ih =>
    intro j hj
    have hlt : j < (nums k0 l.length).length := by rw [nums_len]; omega
    refine Ev.step (fun q => ?_) (ih (j + 1) (by omega))
    simp only [laws_markInt64S.l0]
    rw [if_pos (by simp [nums_len]; omega), if_pos (by omega), w64r (x := k0 + j + 1) (by omega) (by omega), w64r (x := (j : Int) + 1) (by omega) (by omega), Int.toNat_natCast]
    have := step_set (nums k0 l.length) l (nums_len _ _) j hlt
    rw [nums_at] at this
    rw [this, show k0 + (j : Int) + 1 = k0 + ((j + 1 : Nat) : Int) by omega]; rfl
theorem markI (l : List Int) (k0 : Int) (h0 : 0 ≤ k0) (h1 : k0 + l.length ≤ 1152921504606846976) : Ev (fun q => laws_markInt64S.f q l k0) (k0 + l.length, nums k0 l.length) := by
  have := markI_loop l k0 h0 h1 l.length 0 (by omega)
  simpa [laws_markInt64S.f] using this
def numsS : Int → List (List Int) → List (List Int)
  | _, [] => []
  | k0, r :: l => nums k0 r.length :: numsS (k0 + r.length) l
theorem numsS_len : ∀ (k0 : Int) (l : List (List Int)), (numsS k0 l).length = l.length
  | _, [] => rfl
  | k0, r :: l => by simp [numsS, numsS_len]
theorem total_take (l : List (List Int)) (j : Nat) (h : j < l.length) : total (l.take (j + 1)) = total (l.take j) + l[j].length := by
  rw [List.take_succ_eq_append_getElem h]; simp only [total, List.map_append, List.map_cons, List.map_nil, List.sum_append, List.sum_cons, List.sum_nil]; omega
theorem total_take_le (l : List (List Int)) (j : Nat) : total (l.take j) ≤ total l := by
  have : total l = total (l.take j) + total (l.drop j) := by
    simp only [total]
    rw [← List.sum_append, ← List.map_append, List.take_append_drop]
  omega
theorem numsS_at : ∀ (k0 : Int) (l : List (List Int)) (j : Nat) (h : j < (numsS k0 l).length) (h' : j < l.length), (numsS k0 l)[j] = nums (k0 + total (l.take j)) l[j].length
  | _, [], j, h, h' => absurd h' (Nat.not_lt_zero _)
  | k0, r :: l, 0, h, h' => by simp [numsS, total]
  | k0, r :: l, j + 1, h, h' => by
    have := numsS_at (k0 + r.length) l j (by rw [numsS_len]; simpa using h') (by simpa using h')
    simp only [numsS, List.getElem_cons_succ, List.take_succ_cons]
    rw [this]
    congr 1
    simp only [total, List.map_cons, List.sum_cons]; omega
theorem markSS_loop (l : List (List Int)) (k0 : Int) (h0 : 0 ≤ k0) (h1 : k0 + total l ≤ 1152921504606846976) (hl : l.length ≤ 1048576) (m : Nat) : ∀ j : Nat, j + m = l.length →
    Ev (fun q => laws_markInt64SS.l0 q ((numsS k0 l).take j ++ l.drop j) (k0 + total (l.take j)) (j : Int)) (k0 + total l, numsS k0 l) := by
  induction m with
  | zero =>
    intro j hj
    refine Ev.step (f := fun _ => some (k0 + total l, numsS k0 l)) (fun q => ?_) (Ev.now _)
    simp only [laws_markInt64SS.l0]
    rw [if_neg (by simp [numsS_len]; omega), show j = l.length by omega, List.drop_length, List.append_nil, List.take_of_length_le (l := numsS k0 l) (i := l.length) (by rw [numsS_len]; omega), List.take_length]
  | succ m ih =>
    intro j hj
    have hlt : j < l.length := by omega
    have hlt2 : j < (numsS k0 l).length := by rw [numsS_len]; omega
    have ht := total_take l j hlt
    have hle := total_take_le l (j + 1)
    have e3 : rdRow35 ((numsS k0 l).take j ++ l.drop j) (j : Int) = l[j] := by
      simp only [rdRow35, Int.toNat_natCast, List.getD_eq_getElem?_getD]
      rw [List.getElem?_append_right (by simp; omega)]
      simp only [List.length_take, numsS_len, Nat.min_eq_left (Nat.le_of_lt hlt), Nat.sub_self, List.getElem?_drop, Nat.add_zero, List.getElem?_eq_getElem hlt, Option.getD_some]
    refine Ev.step (f := fun q => (laws_markInt64S.f q l[j] (k0 + total (l.take j))).bind fun p => laws_markInt64SS.l0 q (((numsS k0 l).take j ++ l.drop j).set j p.2) p.1 ((j + 1 : Nat) : Int)) (fun q => ?_) (Ev.bind (markI l[j] (k0 + total (l.take j)) (by omega) (by omega)) ?_)
    · simp only [laws_markInt64SS.l0]
      rw [if_pos (by simp [numsS_len]; omega), if_pos (by omega), e3, w64r (x := (j : Int) + 1) (by omega) (by omega), Int.toNat_natCast]; rfl
    · have := step_set (numsS k0 l) l (numsS_len _ _) j hlt2
      rw [numsS_at k0 l j hlt2 hlt] at this
      dsimp only
      rw [this, show k0 + (total (l.take j) : Int) + (l[j].length : Int) = k0 + (total (l.take (j + 1)) : Int) by omega]
      exact ih (j + 1) (by omega)
theorem markSS (l : List (List Int)) (k0 : Int) (h0 : 0 ≤ k0) (h1 : k0 + total l ≤ 1152921504606846976) (hl : l.length ≤ 1048576) : Ev (fun q => laws_markInt64SS.f q l k0) (k0 + total l, numsS k0 l) := by
  have := markSS_loop l k0 h0 h1 hl l.length 0 (by omega)
  simpa [total, laws_markInt64SS.f] using this
end Go.Proofs.Ytaiefdhenikiiaa.Base
namespace Go.Proofs.Ytaiefdhenikiiaa.Base
open Go.RowKit Go.Proofs.YtaiefdhenikiiaaW.PrintWords Go.Proofs.YtaiefdhenikiiaaW.PrintLast Go.Proofs.YtaiefdhenikiiaaW.PrintMore
set_option linter.unusedVariables false
set_option linter.unusedSimpArgs false
theorem sin_is (x lo hi : Int) : spec_l01In.f x lo hi = some (decide (lo ≤ x ∧ x ≤ hi)) := by
  unfold spec_l01In.f
  by_cases h : lo ≤ x
  · simp [h]
  · simp [h]
theorem sfrac_is (a : S77) : Ev (fun k => spec_l01IsFrac.f k a.f0 a.f1) (decide (okF a)) := by
  by_cases h1 : 1 ≤ a.f1 ∧ a.f1 ≤ 1000000000
  · by_cases h2 : -1000000000 ≤ a.f0 ∧ a.f0 ≤ 1000000000
    · have := sisfrac_is a.f0 a.f1 (by omega) (by omega)
      exact this
    · unfold spec_l01IsFrac.f
      simp only [sin_is, Option.bind_some]
      simp only [h1, h2, and_self, decide_true, decide_false, if_true, Bool.false_eq_true, if_false]
      rw [decide_eq_false (fun h : okF a => h2 ⟨h.2.2.1, h.2.2.2.1⟩)]
      exact Ev.now _
  · unfold spec_l01IsFrac.f
    simp only [sin_is, Option.bind_some]
    simp only [h1, decide_false, Bool.false_eq_true, if_false]
    rw [decide_eq_false (fun h : okF a => h1 ⟨h.1, h.2.1⟩)]
    exact Ev.now _
theorem sbef_is (a b : ByteArray) : spec_l01Before.f a b = some (befW a b) := by
  unfold spec_l01Before.f befW
  by_cases h : (a.size : Int) = (b.size : Int)
  · rw [if_pos h, if_neg (by simpa using h)]
  · rw [if_neg h, if_pos h]
theorem sword_loop (d : Nat) (hd : d ≤ 9) (s : ByteArray) (hs : s.size ≤ 9223372036854775806) (m : Nat) : ∀ i : Nat, i + m = s.size →
    Ev (fun k => spec_l01Word.l0 k (d : Int) s (i : Int)) ((s.data.toList.drop i).all (letB d)) := by
  have hsz : s.data.toList.length = s.size := by rw [Array.length_toList]; rfl
  induction m with
  | zero =>
    intro i hi
    refine Ev.step (f := fun _ => some true) (fun k => ?_) ?_
    · simp only [spec_l01Word.l0]
      rw [if_neg (by omega)]
    · rw [List.drop_eq_nil_of_le (by omega)]
      exact Ev.now _
  | succ m ih =>
    intro i hi
    have hlt : i < s.data.toList.length := by omega
    have hls : i < s.size := by omega
    have hb : bt s (i : Int) = ((s.data.toList[i]).toNat : Int) := by
      unfold bt
      rw [dif_pos (by simpa using hls)]
      rfl
    have hr : (s.data.toList[i]).toNat < 256 := (s.data.toList[i]).toNat_lt
    obtain ⟨b, hbb⟩ : ∃ b, b = s.data.toList[i] := ⟨_, rfl⟩
    rw [List.drop_eq_getElem_cons hlt, List.all_cons, ← hbb]
    rw [← hbb] at hb hr
    by_cases c : letB d b = true
    · refine Ev.step (fun k => ?_) (by rw [c, Bool.true_and]; exact ih (i + 1) (by omega))
      have c' := of_decide_eq_true c
      simp only [spec_l01Word.l0]
      rw [if_pos (by omega), if_pos (by omega), hb, if_neg (by omega), if_neg (by omega), w64 (by omega) (by omega)]
      rfl
    · have cf : letB d b = false := by simpa using c
      have c' := of_decide_eq_false cf
      rw [cf, Bool.false_and]
      refine Ev.step (f := fun _ => some false) (fun k => ?_) (Ev.now _)
      simp only [spec_l01Word.l0]
      rw [if_pos (by omega), if_pos (by omega), hb]
      by_cases c2 : (b.toNat : Int) < 48
      · rw [if_pos c2]
      · rw [if_neg c2, if_pos (by omega)]
def lettersB (d : Nat) (s : ByteArray) : Bool := s.data.toList.all (letB d)
theorem sword_is (d : Nat) (hd : d ≤ 9) (s : ByteArray) (hs : s.size ≤ 9223372036854775806) : Ev (fun k => spec_l01Word.f k (d : Int) s) (lettersB d s) :=
  sword_loop d hd s hs s.size 0 (by omega)
/-- Terms as_ told, behind a term. -/
def goodP (d n : Nat) : Option S79 → List S79 → Bool
  | _, [] => true
  | y, x :: l => wordB d n x.f0 && (decide (okF x.f1) && ((x.f1.f0 != 0) && ((match y with | none => true | some y => befW y.f0 x.f0) && goodP d n (some x) l)))
theorem goodP_step (d n : Nat) (y : Option S79) (x : S79) (l : List S79) : goodP d n y (x :: l) = (wordB d n x.f0 && (decide (okF x.f1) && ((x.f1.f0 != 0) && ((match y with | none => true | some y => befW y.f0 x.f0) && goodP d n (some x) l)))) := rfl
theorem goodP_cons (d n : Nat) : ∀ (l : List S79) (x : S79), goodB d n (x :: l) = (termB d n none x && goodP d n (some x) l)
  | [], x => by simp [goodB, goodP]
  | y :: l, x => by
    have ih := goodP_cons d n l y
    have e : goodB d n (x :: y :: l) = (termB d n none x && (befW x.f0 y.f0 && goodB d n (y :: l))) := rfl
    rw [e, ih]
    rw [goodP_step]
    unfold termB
    simp only [Bool.and_true]
    cases wordB d n y.f0 <;> cases decide (okF y.f1) <;> cases (y.f1.f0 != 0) <;> cases befW x.f0 y.f0 <;> simp
theorem goodP_is (d n : Nat) (l : List S79) : goodP d n none l = goodB d n l := by
  cases l with
  | nil => rfl
  | cons x l => rw [goodP_cons, goodP_step]; unfold termB; simp only [Bool.and_true, Bool.true_and]; cases wordB d n x.f0 <;> cases decide (okF x.f1) <;> cases (x.f1.f0 != 0) <;> rfl
def prevT (l : List S79) (j : Nat) : Option S79 := if j = 0 then none else l[j - 1]?
def smallT (l : List S79) : Prop := l.length ≤ 1048576 ∧ ∀ x ∈ l, x.f0.size ≤ 1048576
theorem are_loop (d n : Nat) (hd : d ≤ 9) (l : List S79) (hl : smallT l) (m : Nat) : ∀ j : Nat, j + m = l.length →
    Ev (fun k => impl_areTerms.l0 k (d : Int) (n : Int) l l (l.length : Int) (j : Int)) (goodP d n (prevT l j) (l.drop j)) := by
  induction m with
  | zero =>
    intro j hj
    refine Ev.step (f := fun _ => some true) (fun k => ?_) ?_
    · simp only [impl_areTerms.l0]; rw [if_neg (by omega)]
    · rw [List.drop_eq_nil_of_le (by omega)]; exact Ev.now _
  | succ m ih =>
    intro j hj
    have hjl : j < l.length := by omega
    have hlen := hl.1
    have ih := ih (j + 1) (by omega)
    obtain ⟨x, hx⟩ : ∃ x, x = l[j] := ⟨_, rfl⟩
    have hxs : x.f0.size ≤ 1048576 := by rw [hx]; exact hl.2 _ (List.getElem_mem hjl)
    have hpn : prevT l (j + 1) = some x := by unfold prevT; rw [if_neg (by omega), hx]; simp [List.getElem?_eq_getElem hjl]
    rw [hpn] at ih
    rw [List.drop_eq_getElem_cons hjl, ← hx]
    rw [goodP_step]
    have hw := word_is d n hd x.f0 (by omega)
    have hf := frac_is x.f1
    refine Ev.step (f := fun k => (impl_isWord.f k (d : Int) x.f0 (n : Int)).bind fun t => if t = true then (impl_IsFraction.f k x.f1.f0 x.f1.f1).bind fun t => (if t = true then (if x.f1.f0 = 0 then some false else (if (j : Int) > 0 then ((impl_compareWords.f (rd_T79 l (wrap64 ((j : Int) - 1))).f0 x.f0).bind fun t => if t ≥ 0 then some false else impl_areTerms.l0 k (d : Int) (n : Int) l l (l.length : Int) ((j + 1 : Nat) : Int)) else impl_areTerms.l0 k (d : Int) (n : Int) l l (l.length : Int) ((j + 1 : Nat) : Int))) else some false) else some false) (fun k => ?_) (Ev.bind hw ?_)
    · simp only [impl_areTerms.l0]
      rw [if_pos (by omega), if_pos (by omega), if_pos (by omega), rd79 l j hjl, ← hx, w64 (x := (j : Int) + 1) (by omega) (by omega)]
      by_cases cj : (j : Int) > 0
      · simp only [if_pos cj, w64 (x := (j : Int) - 1) (by omega) (by omega), if_pos (show 0 ≤ (j : Int) - 1 by omega), if_pos (show (j : Int) - 1 < (l.length : Int) by omega)]
        rfl
      · simp only [if_neg cj]
        rfl
    · cases cw : wordB d n x.f0 with
      | false => simp only [Bool.false_eq_true, if_false, Bool.false_and]; exact Ev.now _
      | true =>
        simp only [if_true, Bool.true_and]
        refine Ev.bind hf ?_
        cases cf : decide (okF x.f1) with
        | false => simp only [Bool.false_eq_true, if_false, Bool.false_and]; exact Ev.now _
        | true =>
          simp only [if_true, Bool.true_and]
          by_cases cz : x.f1.f0 = 0
          · simp only [cz, if_true]
            exact Ev.now _
          · simp only [if_neg cz, show (x.f1.f0 != 0) = true from by simpa using cz, Bool.true_and]
            by_cases cj : j = 0
            · subst cj
              have : prevT l 0 = none := rfl
              rw [this]
              simp only [Bool.true_and]
              simp only [show ¬ ((0 : Nat) : Int) > 0 by omega, if_false]
              exact ih
            · have hp : prevT l j = some (l[j - 1]'(by omega)) := by unfold prevT; rw [if_neg cj, List.getElem?_eq_getElem (by omega)]
              rw [hp]
              simp only [show ((j : Nat) : Int) > 0 by omega, if_true, w64 (x := (j : Int) - 1) (by omega) (by omega)]
              have hr : rd_T79 l ((j : Int) - 1) = l[j - 1]'(by omega) := by rw [show (j : Int) - 1 = ((j - 1 : Nat) : Int) by omega]; exact rd79 l (j - 1) (by omega)
              rw [hr]
              have hys : (l[j - 1]'(by omega)).f0.size ≤ 1048576 := hl.2 _ (List.getElem_mem _)
              have hc := cmp_bef (l[j - 1]'(by omega)).f0 x.f0 (by omega) (by omega)
              unfold impl_compareWords.f
              simp only [Option.bind_some]
              rw [← hc]
              by_cases cc : cmpW (l[j - 1]'(by omega)).f0 x.f0 < 0
              · rw [decide_eq_true cc, Bool.true_and]
                simp only [if_neg (show ¬ cmpW (l[j - 1]'(by omega)).f0 x.f0 ≥ 0 by omega)]
                exact ih
              · rw [decide_eq_false cc, Bool.false_and]
                simp only [if_pos (show cmpW (l[j - 1]'(by omega)).f0 x.f0 ≥ 0 by omega)]
                exact Ev.now _
theorem are_is (d n : Nat) (hd : d ≤ 9) (l : List S79) (hl : smallT l) : Ev (fun k => impl_areTerms.f k (d : Int) (n : Int) l) (goodB d n l) := by
  have := are_loop d n hd l hl l.length 0 (by omega)
  rw [List.drop_zero, show prevT l 0 = none from rfl, goodP_is] at this
  exact this
/-- The reference's check of a series. -/
theorem sis_loop (d n : Nat) (hd : d ≤ 9) (l : List S79) (hl : smallT l) (m : Nat) : ∀ j : Nat, j + m = l.length →
    Ev (fun k => spec_l01Is.l0 k (j : Int) (d : Int) (n : Int) l) (goodP d n (prevT l j) (l.drop j)) := by
  induction m with
  | zero =>
    intro j hj
    refine Ev.step (f := fun _ => some true) (fun k => ?_) ?_
    · simp only [spec_l01Is.l0]; rw [if_neg (by omega)]
    · rw [List.drop_eq_nil_of_le (by omega)]; exact Ev.now _
  | succ m ih =>
    intro j hj
    have hjl : j < l.length := by omega
    have hlen := hl.1
    have ih := ih (j + 1) (by omega)
    obtain ⟨x, hx⟩ : ∃ x, x = l[j] := ⟨_, rfl⟩
    have hxs : x.f0.size ≤ 1048576 := by rw [hx]; exact hl.2 _ (List.getElem_mem hjl)
    have hpn : prevT l (j + 1) = some x := by unfold prevT; rw [if_neg (by omega), hx]; simp [List.getElem?_eq_getElem hjl]
    rw [hpn] at ih
    rw [List.drop_eq_getElem_cons hjl, ← hx]
    have hw := sword_is d hd x.f0 (by omega)
    have hf := sfrac_is x.f1
    have hbad : Ev (fun k => spec_l01Is.j1 k (j : Int) true (d : Int) (n : Int) l x.f0 x.f1.f0 x.f1.f1) false := by
      refine Ev.step (f := fun _ => some false) (fun k => ?_) (Ev.now _)
      simp only [spec_l01Is.j1, if_true]
    have hgo : Ev (fun k => spec_l01Is.j1 k (j : Int) false (d : Int) (n : Int) l x.f0 x.f1.f0 x.f1.f1) ((match prevT l j with | none => true | some y => befW y.f0 x.f0) && goodP d n (some x) (l.drop (j + 1))) := by
      by_cases cj : j = 0
      · subst cj
        have : prevT l 0 = none := rfl
        rw [this]
        simp only [Bool.true_and]
        refine Ev.step (fun k => ?_) ih
        simp only [spec_l01Is.j1, Bool.false_eq_true, if_false]
        rw [if_neg (by omega), w64 (by omega) (by omega)]; rfl
      · have hp : prevT l j = some (l[j - 1]'(by omega)) := by unfold prevT; rw [if_neg cj, List.getElem?_eq_getElem (by omega)]
        rw [hp]
        dsimp only
        have hr : rd_T79 l ((j : Int) - 1) = l[j - 1]'(by omega) := by rw [show (j : Int) - 1 = ((j - 1 : Nat) : Int) by omega]; exact rd79 l (j - 1) (by omega)
        refine Ev.step (f := fun k => if befW (l[j - 1]'(by omega)).f0 x.f0 = true then spec_l01Is.l0 k ((j + 1 : Nat) : Int) (d : Int) (n : Int) l else some false) (fun k => ?_) ?_
        · simp only [spec_l01Is.j1, Bool.false_eq_true, if_false]
          rw [if_pos (by omega), w64 (x := (j : Int) - 1) (by omega) (by omega), if_pos (by omega), if_pos (by omega), hr, sbef_is, w64 (x := (j : Int) + 1) (by omega) (by omega)]
          rfl
        · cases befW (l[j - 1]'(by omega)).f0 x.f0 with
          | false => simp only [Bool.false_eq_true, if_false, Bool.false_and]; exact Ev.now _
          | true => simp only [if_true, Bool.true_and]; exact ih
    rw [goodP_step]
    by_cases cs : (x.f0.size : Int) > (n : Int)
    · have : wordB d n x.f0 = false := by unfold wordB; rw [decide_eq_false (by omega), Bool.and_false]
      rw [this, Bool.false_and]
      refine Ev.step (fun k => ?_) hbad
      simp only [spec_l01Is.l0]
      rw [if_pos (by omega), if_pos (by omega), rd79 l j hjl, ← hx, if_pos cs]
    · have hwb : wordB d n x.f0 = lettersB d x.f0 := by unfold wordB lettersB; rw [decide_eq_true (by omega), Bool.and_true]
      rw [hwb]
      refine Ev.step (f := fun k => (spec_l01Word.f k (d : Int) x.f0).bind fun t => if t = true then (spec_l01IsFrac.f k x.f1.f0 x.f1.f1).bind fun t => (if t = true then spec_l01Is.j1 k (j : Int) (x.f1.f0 == 0) (d : Int) (n : Int) l x.f0 x.f1.f0 x.f1.f1 else spec_l01Is.j1 k (j : Int) true (d : Int) (n : Int) l x.f0 x.f1.f0 x.f1.f1) else spec_l01Is.j1 k (j : Int) true (d : Int) (n : Int) l x.f0 x.f1.f0 x.f1.f1) (fun k => ?_) (Ev.bind hw ?_)
      · simp only [spec_l01Is.l0]
        rw [if_pos (by omega), if_pos (by omega), rd79 l j hjl, ← hx, if_neg cs]
        rfl
      · cases cw : lettersB d x.f0 with
        | false => simp only [Bool.false_eq_true, if_false, Bool.false_and]; exact hbad
        | true =>
          simp only [if_true, Bool.true_and]
          refine Ev.bind hf ?_
          cases cf : decide (okF x.f1) with
          | false => simp only [Bool.false_eq_true, if_false, Bool.false_and]; exact hbad
          | true =>
            simp only [if_true, Bool.true_and]
            by_cases cz : x.f1.f0 = 0
            · simp only [cz, show ((0 : Int) == 0) = true from rfl, show ((0 : Int) != 0) = false from rfl, Bool.false_and]
              rw [cz] at hbad; exact hbad
            · simp only [show (x.f1.f0 == 0) = false from by simpa using cz, show (x.f1.f0 != 0) = true from by simpa using cz, Bool.true_and]
              exact hgo
end Go.Proofs.Ytaiefdhenikiiaa.Base
namespace Go.Proofs.Ytaiefdhenikiiaa.Base
open Go.RowKit Go.Proofs.YtaiefdhenikiiaaW.PrintWords Go.Proofs.YtaiefdhenikiiaaW.PrintLast Go.Proofs.YtaiefdhenikiiaaW.PrintMore
set_option linter.unusedVariables false
set_option linter.unusedSimpArgs false
def lvlB (D N : Int) : Bool := decide (1 ≤ D ∧ D ≤ 3) && (decide (1 ≤ N ∧ N ≤ 5) && (decide (D < 3) || decide (N < 5)))
theorem lvl_impl (D N : Int) : impl_isLevel.f D N = some (lvlB D N) := by
  unfold impl_isLevel.f impl_areLetters.f lvlB
  simp only [within_is, Option.bind_some]
  by_cases h1 : 1 ≤ D ∧ D ≤ 3
  · by_cases h2 : 1 ≤ N ∧ N ≤ 5
    · by_cases h3 : D < 3 <;> simp [h1, h2, h3]
    · simp [h1, h2]
  · simp [h1]
theorem lvl_sizes (D N : Int) : spec_l01Sizes.f D N = some (lvlB D N) := by
  unfold spec_l01Sizes.f lvlB
  simp only [sin_is, Option.bind_some]
  by_cases h1 : 1 ≤ D ∧ D ≤ 3
  · by_cases h2 : 1 ≤ N ∧ N ≤ 5
    · by_cases h3 : D < 3
      · simp [h1, h2, h3]
      · have e : decide (N ≤ 4) = decide (N < 5) := decide_eq_decide.2 (by omega)
        simp [h1, h2, h3, e]
    · simp [h1, h2]
  · simp [h1]
theorem lvl_nat {D N : Int} (h : lvlB D N = true) : ∃ d n : Nat, D = d ∧ N = n ∧ (1 ≤ d ∧ d ≤ 3) ∧ 1 ≤ n ∧ n ≤ 5 := by
  unfold lvlB at h
  simp only [Bool.and_eq_true, decide_eq_true_eq] at h
  obtain ⟨h1, h2, _⟩ := h
  exact ⟨D.toNat, N.toNat, by omega, by omega, ⟨by omega, by omega⟩, by omega, by omega⟩
/-- Is it a series? -/
def serB (D N : Int) (l : List S79) : Bool := lvlB D N && goodB D.toNat N.toNat l
theorem ser_impl (D N : Int) (l : List S79) (hl : smallT l) : Ev (fun k => impl_IsSeries.f k D N l) (serB D N l) := by
  unfold impl_IsSeries.f
  unfold serB
  refine Ev.congr (f := fun k => (some (lvlB D N)).bind fun t => if t = true then impl_areTerms.f k D N l else some false) (fun k => ?_) ?_
  · rw [lvl_impl]
    cases lvlB D N with
    | false => simp
    | true => cases impl_areTerms.f k D N l <;> simp
  · cases h : lvlB D N with
    | false => simp only [Option.bind_some, Bool.false_eq_true, if_false, Bool.false_and]; exact Ev.now _
    | true =>
      simp only [Option.bind_some, if_true, Bool.true_and]
      obtain ⟨d, n, rfl, rfl, hs, _⟩ := lvl_nat h
      exact are_is d n (by omega) l hl
theorem ser_spec (D N : Int) (l : List S79) (hl : smallT l) : Ev (fun k => spec_l01Is.f k D N l) (serB D N l) := by
  unfold spec_l01Is.f serB
  rw [lvl_sizes]
  cases h : lvlB D N with
  | false => simp only [Option.bind_some, Bool.false_eq_true, if_false, Bool.false_and]; exact Ev.now _
  | true =>
    simp only [Option.bind_some, if_true, Bool.true_and]
    obtain ⟨d, n, rfl, rfl, hs, _⟩ := lvl_nat h
    have := sis_loop d n (by omega) l hl l.length 0 (by omega)
    rw [List.drop_zero, show prevT l 0 = none from rfl, goodP_is] at this
    exact this
end Go.Proofs.Ytaiefdhenikiiaa.Base
namespace Go.Proofs.Ytaiefdhenikiiaa.Base
open Go.RowKit Go.Proofs.YtaiefdhenikiiaaW.PrintWords Go.Proofs.YtaiefdhenikiiaaW.PrintLast Go.Proofs.YtaiefdhenikiiaaW.PrintMore
set_option linter.unusedVariables false
set_option linter.unusedSimpArgs false
theorem wordB_is {d n : Nat} {s : ByteArray} (h : wordB d n s = true) (hd : d ≤ 9) : isWd d n s := by
  unfold wordB at h
  rw [Bool.and_eq_true, List.all_eq_true, decide_eq_true_iff] at h
  obtain ⟨h1, h2⟩ := h
  have hb : ∀ b ∈ s.data.toList, 48 ≤ b.toNat ∧ b.toNat < 48 + d := fun b hb => of_decide_eq_true (h1 b hb)
  refine ⟨?_, ?_, ?_⟩
  · apply ByteArray.ext
    unfold encW decW
    rw [List.map_map]
    have : (s.data.toList.map ((fun i => UInt8.ofNat (48 + i)) ∘ fun b => b.toNat - 48)) = s.data.toList := by
      conv => rhs; rw [← List.map_id s.data.toList]
      apply List.map_congr_left
      intro b hb'
      have := hb b hb'
      simp only [Function.comp, id_eq]
      rw [show 48 + (b.toNat - 48) = b.toNat by omega, UInt8.ofNat_toNat]
    rw [this]
  · unfold decW; rw [List.length_map, Array.length_toList]
    have : s.size = s.data.size := rfl
    omega
  · intro x hx
    unfold decW at hx
    obtain ⟨b, hb', rfl⟩ := List.mem_map.1 hx
    have := hb b hb'
    show b.toNat - 48 < d
    omega
theorem good_okTs {d n : Nat} (hd : d ≤ 9) : ∀ {l : List S79}, goodB d n l = true → okTs d n l ∧ ∀ x ∈ l, x.f1.f0 ≠ 0
  | [], _ => ⟨fun x hx => by simp at hx, fun x hx => by simp at hx⟩
  | [x], h => by
    simp only [goodB, termB, Bool.and_eq_true, decide_eq_true_eq, bne_iff_ne, Bool.and_true] at h
    refine ⟨fun y hy => ?_, fun y hy => ?_⟩ <;> obtain rfl := List.mem_singleton.1 hy
    · exact ⟨wordB_is h.1.1 hd, h.1.2⟩
    · exact h.2
  | x :: y :: l, h => by
    simp only [goodB, Bool.and_eq_true] at h
    obtain ⟨h1, _, h3⟩ := h
    have ih := good_okTs hd h3
    simp only [termB, Bool.and_eq_true, decide_eq_true_eq, bne_iff_ne, Bool.and_true] at h1
    refine ⟨fun z hz => ?_, fun z hz => ?_⟩ <;> rcases List.mem_cons.1 hz with rfl | hz
    · exact ⟨wordB_is h1.1.1 hd, h1.1.2⟩
    · exact ih.1 z hz
    · exact h1.2
    · exact ih.2 z hz
end Go.Proofs.Ytaiefdhenikiiaa.Base
namespace Go.Proofs.Ytaiefdhenikiiaa.Base
open Go.RowKit Go.Proofs.YtaiefdhenikiiaaW.PrintWords Go.Proofs.YtaiefdhenikiiaaW.PrintLast Go.Proofs.YtaiefdhenikiiaaW.PrintMore
set_option linter.unusedSimpArgs false
set_option linter.unusedVariables false
theorem eqSer_id (d n : Int) (l : List S79) (hl : l.length ≤ 2000000) : Ev (fun q => laws_eqSeries.f q d n l d n l) true := by
  unfold laws_eqSeries.f
  simp only [if_true]
  refine Ev.bind (eqT_same l hl) ?_
  simp only [if_true]; exact Ev.now _
theorem marksSer_id (d n : Int) (l : List S79) (hl : l.length ≤ 2000000) : ∃ l' : List S79, Ev (fun q => laws_markSeries.f q d n l 1) (((1 + 3 * l.length : Nat) : Int), l') ∧ Ev (fun q => laws_heldSeries.f q d n l' 1) ((1 + 3 * l.length : Nat) : Int) := by
  obtain ⟨l', _, h1, h2⟩ := marksT l hl
  refine ⟨l', ?_, ?_⟩
  · unfold laws_markSeries.f; exact Ev.bind h1 (Ev.now _)
  · unfold laws_heldSeries.f
    refine Ev.bind h2 ?_
    simp only [show ¬ ((1 + 3 * l.length : Nat) : Int) < 0 by omega, if_false]
    exact Ev.now _
end Go.Proofs.Ytaiefdhenikiiaa.Base
namespace Go.Proofs.Ytaiefdhenikiiaa.Base
open Go.RowKit Go.Proofs.YtaiefdhenikiiaaW.PrintWords Go.Proofs.YtaiefdhenikiiaaW.PrintLast Go.Proofs.YtaiefdhenikiiaaW.PrintMore
set_option linter.unusedVariables false
set_option linter.unusedSimpArgs false
theorem szv_loop (l : List S75) (hl : l.length ≤ 2000000) (hw : ∀ x ∈ l, x.f0.size ≤ 9223372036854775807) (m : Nat) : ∀ (j : Nat) (left : Int), j + m = l.length → 0 ≤ left → left ≤ 1048576 →
    ∃ v, Ev (fun q => laws_szTermS.l0 q l left (j : Int)) v ∧ v ≤ left ∧ (0 ≤ v → ∀ i (h : i < l.length), j ≤ i → (l[i].f0.size : Int) ≤ 1048576) := by
  induction m with
  | zero =>
    intro j left hj h0 h1
    refine ⟨left, Ev.step (f := fun _ => some left) (fun q => ?_) (Ev.now _), Int.le_refl _, fun _ i h hi => by omega⟩
    simp only [laws_szTermS.l0]; rw [if_neg (by omega)]
  | succ m ih =>
    intro j left hj h0 h1
    have hjl : j < l.length := by omega
    have hs := hw l[j] (List.getElem_mem hjl)
    have ew : wrap64 (left - (l[j].f0.size : Int)) = left - (l[j].f0.size : Int) := w64m (by omega) (by omega)
    by_cases c : left - (l[j].f0.size : Int) < 0
    · refine ⟨-1, Ev.step (f := fun _ => some (-1)) (fun q => ?_) (Ev.now _), by omega, fun h => by omega⟩
      simp only [laws_szTermS.l0]
      rw [if_pos (by omega), if_pos (by omega), rd75 l j hjl]
      unfold laws_szTerm.f
      rw [ew, if_pos c]
      simp only [Option.bind_some]
      rw [if_pos (by omega)]
    · obtain ⟨v, h2, hle, h3⟩ := ih (j + 1) (left - (l[j].f0.size : Int)) (by omega) (by omega) (by omega)
      refine ⟨v, Ev.step (fun q => ?_) h2, by omega, fun hv i hi hji => ?_⟩
      · simp only [laws_szTermS.l0]
        rw [if_pos (by omega), if_pos (by omega), rd75 l j hjl]
        unfold laws_szTerm.f
        rw [ew, if_neg c]
        simp only [Option.bind_some]
        rw [if_neg c, w64m (x := (j : Int) + 1) (by omega) (by omega)]
        rfl
      · by_cases e : i = j
        · subst e; omega
        · exact h3 hv i hi (by omega)
theorem szv_is (l : List S75) (hn : l.length ≤ 9223372036854775807) (hw : ∀ x ∈ l, x.f0.size ≤ 9223372036854775807) (left : Int) (h0 : 0 ≤ left) (h1 : left ≤ 1048576) :
    ∃ v, Ev (fun q => laws_szTermS.f q l left) v ∧ v ≤ left ∧ (0 ≤ v → l.length ≤ 1048576 ∧ ∀ x ∈ l, x.f0.size ≤ 1048576) := by
  have ew : wrap64 (left - (l.length : Int)) = left - (l.length : Int) := w64m (by omega) (by omega)
  by_cases c : left - (l.length : Int) < 0
  · refine ⟨-1, Ev.congr (f := fun _ => some (-1)) (fun q => ?_) (Ev.now _), by omega, fun h => by omega⟩
    unfold laws_szTermS.f; rw [ew, if_pos c]
  · obtain ⟨v, h2, hle, h3⟩ := szv_loop l (by omega) hw l.length 0 (left - (l.length : Int)) (by omega) (by omega) (by omega)
    refine ⟨v, Ev.congr (fun q => ?_) h2, by omega, fun hv => ⟨by omega, fun x hx => ?_⟩⟩
    · unfold laws_szTermS.f; rw [ew, if_neg c]; rfl
    · obtain ⟨i, hi, rfl⟩ := List.mem_iff_getElem.1 hx
      have := h3 hv i hi (Nat.zero_le _)
      omega
theorem toSer_is (d n : Int) (l : List S75) (hl : l.length ≤ 2000000) : Ev (fun q => laws_toSeries.f q d n l) (d, n, l.map toX) := by
  unfold laws_toSeries.f
  exact Ev.bind (toT_is l hl) (Ev.now _)
theorem szS_is (D N : Int) (l : List S75) (hn : l.length ≤ 9223372036854775807) (hw : ∀ x ∈ l, x.f0.size ≤ 9223372036854775807) (left : Int) (h0 : 0 ≤ left) (h1 : left ≤ 1048576) :
    ∃ v, Ev (fun q => laws_szSeries.f q D N l left) v ∧ v ≤ 1048576 ∧ (0 ≤ v → l.length ≤ 1048576 ∧ ∀ x ∈ l, x.f0.size ≤ 1048576) := by
  obtain ⟨v, hv, hle, h2⟩ := szv_is l hn hw left h0 h1
  by_cases c : v < 0
  · refine ⟨-1, ?_, by omega, fun h => by omega⟩
    unfold laws_szSeries.f
    refine Ev.bind hv ?_
    simp only [c, if_true]; exact Ev.now _
  · refine ⟨v, ?_, by omega, h2⟩
    unfold laws_szSeries.f
    refine Ev.bind hv ?_
    simp only [c, if_false]; exact Ev.now _
/-- A series as_ an argument: what the law's copy is. -/
theorem arg_small (l : List S75) (h : l.length ≤ 1048576 ∧ ∀ x ∈ l, x.f0.size ≤ 1048576) : smallT (l.map toX) := ⟨by rw [List.length_map]; exact h.1, fun x hx => by
  obtain ⟨y, hy, rfl⟩ := List.mem_map.1 hx
  exact h.2 y hy⟩
end Go.Proofs.Ytaiefdhenikiiaa.Base
namespace Go.Proofs.Ytaiefdhenikiiaa.Base
open Go.RowKit Go.Proofs.YtaiefdhenikiiaaW.PrintWords Go.Proofs.YtaiefdhenikiiaaW.PrintLast Go.Proofs.YtaiefdhenikiiaaW.PrintMore
set_option linter.unusedVariables false
set_option linter.unusedSimpArgs false
theorem serB_nat {D N : Int} {l : List S79} (h : serB D N l = true) : ∃ d n : Nat, D = d ∧ N = n ∧ Sz d n ∧ goodB d n l = true := by
  unfold serB at h
  rw [Bool.and_eq_true] at h
  obtain ⟨d, n, rfl, rfl, h1, h2⟩ := lvl_nat h.1
  exact ⟨d, n, rfl, rfl, ⟨by omega, by omega, by omega⟩, by have := h.2; rwa [Int.toNat_natCast, Int.toNat_natCast] at this⟩
end Go.Proofs.Ytaiefdhenikiiaa.Base
namespace Go.Proofs.Ytaiefdhenikiiaa.Base
open Go.RowKit Go.Proofs.YtaiefdhenikiiaaW.PrintWords Go.Proofs.YtaiefdhenikiiaaW.PrintLast Go.Proofs.YtaiefdhenikiiaaW.PrintMore
set_option linter.unusedVariables false
set_option linter.unusedSimpArgs false
def cntStep (row : List Int) (a : Nat) : List Int := row.set a (wrap64 (row.getD a 0 + 1))
def cntW (d : Nat) (w : List Nat) : List Int := w.foldl cntStep (List.replicate d 0)
theorem cnt_len (w : List Nat) : ∀ row : List Int, (w.foldl cntStep row).length = row.length := by
  induction w with
  | nil => intro row; rfl
  | cons a w ih => intro row; rw [List.foldl_cons, ih]; simp [cntStep]
def degL (d : Nat) (l : List S79) : List (List Int) := l.map fun x => cntW d (decW x.f0)
theorem deg_take (d : Nat) (l : List S79) {i : Nat} (h : i < l.length) : degL d (l.take (i + 1)) = degL d (l.take i) ++ [cntW d (decW l[i].f0)] := by
  unfold degL; rw [List.take_succ_eq_append_getElem h, List.map_append]; rfl
theorem idx_is {w : List Nat} {d : Nat} (hd : d ≤ 3) (hw : ∀ x ∈ w, x < d) {j : Nat} (h : j < w.length) : ((bt (encW w) (j : Int)) - 48) % 256 = (w[j] : Int) ∧ w[j] < d := by
  have h1 := hw _ (List.getElem_mem h)
  rw [enc_at w (fun x hx => by have := hw x hx; omega) j h]
  omega
theorem deg_impl1 (d : Nat) (hd : d ≤ 3) (w : List Nat) (hw : ∀ x ∈ w, x < d) (hl : w.length ≤ 100) (out : List (List Int)) (ho : out.length ≤ 1048576) (T L : List S79) (len i D N v0 v1 : Int) (R : List (List Int) × Int) (p : Nat) : ∀ (j : Nat) (row : List Int), row.length = d → j + p = w.length →
    Ev (fun k => impl_DegreesOf.l0 k (out ++ [(w.drop j).foldl cntStep row]) T len (wrap64 (i + 1)) D N L) R →
    Ev (fun k => impl_DegreesOf.l1 k out row T len i (w.length : Int) (j : Int) D N L (encW w) v0 v1) R := by
  induction p with
  | zero =>
    intro j row hr hj h
    rw [List.drop_eq_nil_of_le (by omega)] at h
    refine Ev.step (fun k => ?_) h
    simp only [impl_DegreesOf.l1]
    rw [if_neg (by omega), if_pos (by omega)]; rfl
  | succ p ih =>
    intro j row hr hj h
    have hlt : j < w.length := by omega
    obtain ⟨e1, e2⟩ := idx_is hd hw hlt
    rw [List.drop_eq_getElem_cons hlt, List.foldl_cons] at h
    refine Ev.step (fun k => ?_) (ih (j + 1) (cntStep row w[j]) (by simp [cntStep]; exact hr) (by omega) h)
    simp only [impl_DegreesOf.l1]
    rw [if_pos (by omega), if_pos (by omega), if_pos (by rw [encW_size]; omega), e1, if_pos (by omega), if_pos (by omega), w64 (x := (j : Int) + 1) (by omega) (by omega)]
    rfl
theorem deg_impl0 (d n : Nat) (hs : Sz d n) (l : List S79) (hl : l.length ≤ 1048576) (hok : okTs d n l) (N : Int) (p : Nat) : ∀ i : Nat, i + p = l.length →
    Ev (fun k => impl_DegreesOf.l0 k (degL d (l.take i)) l (l.length : Int) (i : Int) (d : Int) N l) (degL d l, 0) := by
  induction p with
  | zero =>
    intro i hi
    refine Ev.step (f := fun _ => some (degL d l, 0)) (fun k => ?_) (Ev.now _)
    simp only [impl_DegreesOf.l0]
    rw [if_neg (by omega), List.take_of_length_le (by omega)]
  | succ p ih =>
    intro i hi
    have hlt : i < l.length := by omega
    obtain ⟨hw1, hw2⟩ := (hok _ (List.getElem_mem hlt)).1
    have h8 : (decW l[i].f0).length ≤ 8 := by have := hw2.1; have := hs.n8; omega
    have h := ih (i + 1) (by omega)
    rw [deg_take d l hlt] at h
    have hlen : (degL d (l.take i)).length ≤ 1048576 := by unfold degL; rw [List.length_map, List.length_take]; omega
    have key := deg_impl1 d hs.d3 (decW l[i].f0) hw2.2 (by omega) (degL d (l.take i)) hlen l l (l.length : Int) (i : Int) (d : Int) N l[i].f1.f0 l[i].f1.f1 _ (decW l[i].f0).length 0 (List.replicate d 0) (by simp) (by omega) (by rw [List.drop_zero, w64 (x := (i : Int) + 1) (by omega) (by omega)]; exact h)
    rw [hw1] at key
    refine Ev.step (fun k => ?_) key
    simp only [impl_DegreesOf.l0]
    have hsz : (l[i].f0.size : Int) = ((decW l[i].f0).length : Int) := by conv => lhs; rw [← hw1, encW_size]
    rw [if_pos (by omega), if_pos (by omega), if_pos (by omega), if_pos (by omega), if_pos (by have := hs.d3; omega), rd79 l i hlt, hsz, Int.toNat_natCast]
    rfl
theorem deg_spec1 (d : Nat) (hd : d ≤ 3) (l : List S79) (hl : l.length ≤ 1048576) (i : Nat) (hi : i < l.length) (w : List Nat) (hwe : encW w = l[i].f0) (hw : ∀ x ∈ w, x < d) (hwl : w.length ≤ 100) (out : List (List Int)) (ho : out.length ≤ 1048576) (D N : Int) (R : List (List Int) × Int) (p : Nat) : ∀ (j : Nat) (row : List Int), row.length = d → j + p = w.length →
    Ev (fun k => spec_DegreesOf.l0 k (out ++ [(w.drop j).foldl cntStep row]) (wrap64 ((i : Int) + 1)) D N l) R →
    Ev (fun k => spec_DegreesOf.l1 k out (i : Int) row (j : Int) D N l) R := by
  have hsz : (l[i].f0.size : Int) = (w.length : Int) := by rw [← hwe, encW_size]
  induction p with
  | zero =>
    intro j row hr hj h
    rw [List.drop_eq_nil_of_le (by omega)] at h
    refine Ev.step (fun k => ?_) h
    simp only [spec_DegreesOf.l1]
    rw [if_pos (by omega), if_pos (by omega), rd79 l i hi, if_neg (by omega), if_pos (by omega)]; rfl
  | succ p ih =>
    intro j row hr hj h
    have hlt : j < w.length := by omega
    obtain ⟨e1, e2⟩ := idx_is hd hw hlt
    rw [hwe] at e1
    rw [List.drop_eq_getElem_cons hlt, List.foldl_cons] at h
    refine Ev.step (fun k => ?_) (ih (j + 1) (cntStep row w[j]) (by simp [cntStep]; exact hr) (by omega) h)
    simp only [spec_DegreesOf.l1]
    rw [if_pos (by omega), if_pos (by omega), rd79 l i hi, if_pos (by omega), if_pos (by omega), e1, if_pos (by omega), if_pos (by omega), w64 (x := (j : Int) + 1) (by omega) (by omega)]
    rfl
theorem deg_spec0 (d n : Nat) (hs : Sz d n) (l : List S79) (hl : l.length ≤ 1048576) (hok : okTs d n l) (N : Int) (p : Nat) : ∀ i : Nat, i + p = l.length →
    Ev (fun k => spec_DegreesOf.l0 k (degL d (l.take i)) (i : Int) (d : Int) N l) (degL d l, 0) := by
  induction p with
  | zero =>
    intro i hi
    refine Ev.step (f := fun _ => some (degL d l, 0)) (fun k => ?_) (Ev.now _)
    simp only [spec_DegreesOf.l0]
    rw [if_neg (by omega), List.take_of_length_le (by omega)]
  | succ p ih =>
    intro i hi
    have hlt : i < l.length := by omega
    obtain ⟨hw1, hw2⟩ := (hok _ (List.getElem_mem hlt)).1
    have h8 : (decW l[i].f0).length ≤ 8 := by have := hw2.1; have := hs.n8; omega
    have h := ih (i + 1) (by omega)
    rw [deg_take d l hlt] at h
    have hlen : (degL d (l.take i)).length ≤ 1048576 := by unfold degL; rw [List.length_map, List.length_take]; omega
    have key := deg_spec1 d hs.d3 l hl i hlt (decW l[i].f0) hw1 hw2.2 (by omega) (degL d (l.take i)) hlen (d : Int) N _ (decW l[i].f0).length 0 (List.replicate d 0) (by simp) (by omega) (by rw [List.drop_zero, w64 (x := (i : Int) + 1) (by omega) (by omega)]; exact h)
    refine Ev.step (fun k => ?_) key
    simp only [spec_DegreesOf.l0]
    rw [if_pos (by omega), if_pos (by omega), if_pos (by have := hs.d3; omega), Int.toNat_natCast]
    rfl
def degR (D N : Int) (l : List S79) : List (List Int) × Int := if serB D N l = true then (degL D.toNat l, 0) else ([], 1)
theorem deg_impl (D N : Int) (l : List S79) (hl : smallT l) : Ev (fun k => impl_DegreesOf.f k D N l) (degR D N l) := by
  unfold impl_DegreesOf.f degR
  refine Ev.bind (ser_impl D N l hl) ?_
  cases h : serB D N l with
  | false => simp only [Bool.false_eq_true, if_false]; exact Ev.now _
  | true =>
    simp only [if_true]
    obtain ⟨d, n, rfl, rfl, hs, hg⟩ := serB_nat h
    have := deg_impl0 d n hs l hl.1 (good_okTs (by have := hs.d3; omega) hg).1 (n : Int) l.length 0 (by omega)
    rw [List.take_zero] at this
    exact this
theorem deg_spec (D N : Int) (l : List S79) (hl : smallT l) : Ev (fun k => spec_DegreesOf.f k D N l) (degR D N l) := by
  unfold spec_DegreesOf.f degR
  refine Ev.bind (ser_spec D N l hl) ?_
  cases h : serB D N l with
  | false => simp only [Bool.false_eq_true, if_false]; exact Ev.now _
  | true =>
    simp only [if_true]
    obtain ⟨d, n, rfl, rfl, hs, hg⟩ := serB_nat h
    have := deg_spec0 d n hs l hl.1 (good_okTs (by have := hs.d3; omega) hg).1 (n : Int) l.length 0 (by omega)
    rw [List.take_zero] at this
    exact this
theorem deg_len (D N : Int) (l : List S79) (hl : l.length ≤ 1048576) : (degR D N l).1.length ≤ 1048576 ∧ ∀ r ∈ (degR D N l).1, r.length ≤ 3 := by
  unfold degR
  split
  · next h =>
    obtain ⟨d, n, rfl, rfl, hs, hg⟩ := serB_nat h
    refine ⟨by show (degL _ l).length ≤ _; unfold degL; rw [List.length_map]; exact hl, fun r hr => ?_⟩
    have hr : r ∈ degL (d : Int).toNat l := hr
    unfold degL at hr
    obtain ⟨x, _, rfl⟩ := List.mem_map.1 hr
    unfold cntW
    rw [cnt_len, List.length_replicate, Int.toNat_natCast]; exact hs.d3
  · exact ⟨by simp, fun r hr => by simp at hr⟩
end Go.Proofs.Ytaiefdhenikiiaa.Base
namespace Go.Proofs.Ytaiefdhenikiiaa.Base
open Go.RowKit Go.Proofs.YtaiefdhenikiiaaW.PrintWords Go.Proofs.YtaiefdhenikiiaaW.PrintLast Go.Proofs.YtaiefdhenikiiaaW.PrintMore
attribute [local go_sem] max2_int min2_int max_two min_two max_three min_three max_four min_four Go.Proofs.YtaiefdhenikiiaaZ.min2_string   -- for this text's walks alone
set_option linter.unusedVariables false
set_option linter.unusedSimpArgs false
theorem laws_FnExactDegreesOf.keep {w W : World} {a0 : Addr} {v0 : Value} {a1 : Addr} {v1 : Value} {a2 : Addr} {v2 : Value} {a3 : Addr} {v3 : Value} {a4 : Addr} {v4 : Value} {a5 : Addr} {v5 : Value} (p0 : w.cell? a0 = some v0) (p1 : w.cell? a1 = some v1) (p2 : w.cell? a2 = some v2) (p3 : w.cell? a3 = some v3) (p4 : w.cell? a4 = some v4) (p5 : w.cell? a5 = some v5) (hb : Below w.heap.size w W) : W.cell? a0 = some v0 ∧ W.cell? a1 = some v1 ∧ W.cell? a2 = some v2 ∧ W.cell? a3 = some v3 ∧ W.cell? a4 = some v4 ∧ W.cell? a5 = some v5 := ⟨pw_cell_below hb p0, pw_cell_below hb p1, pw_cell_below hb p2, pw_cell_below hb p3, pw_cell_below hb p4, pw_cell_below hb p5⟩
def laws_FnExactDegreesOf.f (k : Nat) (a0_0 : Int) (a0_1 : Int) (l0_2 : List (S75)) : Option Bool := (laws_szSeries.f k a0_0 a0_1 l0_2 1048576).bind fun y1_0 => if y1_0 < 0 then some true else (laws_toSeries.f k a0_0 a0_1 l0_2).bind fun p2 => (spec_DegreesOf.f k p2.1 p2.2.1 p2.2.2).bind fun p3 => (laws_toSeries.f k a0_0 a0_1 l0_2).bind fun p4 => (impl_DegreesOf.f k p4.1 p4.2.1 p4.2.2).bind fun p5 => if p5.2 = p3.2 then (laws_eqInt64SS.f k p5.1 p3.1).bind fun y6_0 => if y6_0 = true then (laws_toSeries.f k a0_0 a0_1 l0_2).bind fun p7 => (laws_eqSeries.f k p4.1 p4.2.1 p4.2.2 p7.1 p7.2.1 p7.2.2).bind fun y8_0 => if y8_0 = true then (laws_markSeries.f k p4.1 p4.2.1 p4.2.2 1).bind fun p9 => if 0 ≤ p9.1 then (laws_eqInt64SS.f k p5.1 p3.1).bind fun y10_0 => if y10_0 = true then (laws_markInt64SS.f k p5.1 1).bind fun p11 => if 0 ≤ p11.1 then (laws_heldInt64SS.f k p11.2 1).bind fun y12_0 => if 0 ≤ y12_0 ∧ y12_0 = p11.1 then (laws_toSeries.f k a0_0 a0_1 l0_2).bind fun p13 => (impl_DegreesOf.f k p13.1 p13.2.1 p13.2.2).bind fun p14 => if p14.2 = p3.2 then (laws_eqInt64SS.f k p14.1 p3.1).bind fun y15_0 => if y15_0 = true then (laws_heldInt64SS.f k p11.2 1).bind fun y16_0 => if 0 ≤ y16_0 ∧ y16_0 = p11.1 then some true else none else none else none else none else none else none else none else none else none else none
theorem laws_FnExactDegreesOf.mono : ∀ a0_0 a0_1 l0_2 k, LeO (laws_FnExactDegreesOf.f k a0_0 a0_1 l0_2) (laws_FnExactDegreesOf.f (k + 1) a0_0 a0_1 l0_2) := by
  intro a0_0 a0_1 l0_2 k
  unfold laws_FnExactDegreesOf.f
  repeat' first
    | (with_reducible exact impl_DegreesOf.mono _ _ _ _)
    | (with_reducible exact laws_eqInt64SS.mono _ _ _)
    | (with_reducible exact laws_eqSeries.mono _ _ _ _ _ _ _)
    | (with_reducible exact laws_heldInt64SS.mono _ _ _)
    | (with_reducible exact laws_markInt64SS.mono _ _ _)
    | (with_reducible exact laws_markSeries.mono _ _ _ _ _)
    | (with_reducible exact laws_szSeries.mono _ _ _ _ _)
    | (with_reducible exact laws_toSeries.mono _ _ _ _)
    | (with_reducible exact spec_DegreesOf.mono _ _ _ _)
    | (with_reducible exact LeO.refl _)
    | (with_reducible refine LeO.ite ?_ ?_)
    | (with_reducible refine LeO.bind ?_ (fun _ => ?_))
    | exact LeO.refl _
    | exact LeO.none _
set_option maxHeartbeats 16000000 in
set_option maxRecDepth 100000 in
theorem laws_FnExactDegreesOf.calls (k : Nat) (a0_0 : Int) (a0_1 : Int) (A0_2 : Option Addr) (c0_2 : Nat) (l0_2 : List (S75)) (r : Bool) (w : World) (hr0_2 : Kd.C k75 w A0_2 l0_2.length l0_2) (hc0_2 : l0_2.length ≤ c0_2) (h : laws_FnExactDegreesOf.f k a0_0 a0_1 l0_2 = some r) :
    Calls Try.prog 4 #[.agg #[.int .i64 a0_0, .int .i64 a0_1, .slice A0_2 l0_2.length c0_2]] w fun e w' => e = .returned (.bool r) ∧ Below w.heap.size w w' := by
  have hu := Try.underlying38
  unfold laws_FnExactDegreesOf.f at h
  have HR0_2 := Aside0.mk hr0_2
  have HC0_2 := Aside0.mk hc0_2
  clear hr0_2 hc0_2
  have B0 := Aside0.mk (Below.refl w.heap.size w)
  have h0 := h
  clear h
  replace h0 := Option.bind_eq_some_iff.mp h0
  obtain ⟨y1_0, E1, h0⟩ := h0
  replace E1 := Aside0.mk E1
  by_cases c1 : y1_0 < 0
  · rw [if_pos c1] at h0
    obtain rfl := Option.some.inj h0
    clear h0
    have d1 : decide (y1_0 < 0) = true := decide_eq_true c1
    clear c1
    go_enter Try.func4, Try.ntmps4
    have z0_0_0 : (w.alloc (.cells #[.int .i64 a0_0, .int .i64 a0_1, .slice A0_2 l0_2.length c0_2] 32)).cell? ⟨w.heap.size, 0, none⟩ = some (.int .i64 a0_0) := blk_cell (new_at rfl) 0
    have z0_0_1 : (w.alloc (.cells #[.int .i64 a0_0, .int .i64 a0_1, .slice A0_2 l0_2.length c0_2] 32)).cell? ⟨w.heap.size, 1, none⟩ = some (.int .i64 a0_1) := blk_cell (new_at rfl) 1
    have z0_0_2 : (w.alloc (.cells #[.int .i64 a0_0, .int .i64 a0_1, .slice A0_2 l0_2.length c0_2] 32)).cell? ⟨w.heap.size, 2, none⟩ = some (.slice A0_2 l0_2.length c0_2) := blk_cell (new_at rfl) 2
    go_wp2_with (go_at_call 28; (with_reducible refine (laws_szSeries.calls k a0_0 a0_1 A0_2 c0_2 l0_2 1048576 y1_0 _ (Kd.C_below HR0_2.out (by repeat (first | (with_reducible first | exact B0.out | apply below_alloc | apply pw_below_drewN | apply below_drew1) | exact B0.out))) HC0_2.out E1.out).mono ?_); rintro e w1 ⟨rfl, hb⟩; have D_ : Below w.heap.size w w1 := below_step (by repeat (first | (with_reducible first | exact Below.refl _ _ | apply below_alloc | apply pw_below_drewN | apply below_drew1) | exact Below.refl _ _)) hb; have HS0 := Aside0.mk (show w1.heap[w.heap.size]? = some (.cells #[.int .i64 a0_0, .int .i64 a0_1, .slice A0_2 l0_2.length c0_2] 32 (0, 0)) from blk_below (new_at rfl) hb); have OB0 := Aside0.mk (show True from trivial); have B1 := Aside0.mk (below_step B0.out D_); have LB0 := Aside0.mk (show w.heap.size < w1.heap.size from blk_lt HS0.out); clear D_ hb; clear z0_0_0 z0_0_1 z0_0_2; have z1_0_0 : w1.cell? ⟨w.heap.size, 0, none⟩ = some (.int .i64 a0_0) := blk_cell HS0.out 0; have z1_0_1 : w1.cell? ⟨w.heap.size, 1, none⟩ = some (.int .i64 a0_1) := blk_cell HS0.out 1; have z1_0_2 : w1.cell? ⟨w.heap.size, 2, none⟩ = some (.slice A0_2 l0_2.length c0_2) := blk_cell HS0.out 2)
    go_ret
    exact ⟨rfl, B1.out⟩
  · rw [if_neg c1] at h0
    have d1 : decide (y1_0 < 0) = false := decide_eq_false c1
    clear c1
    replace h0 := Option.bind_eq_some_iff.mp h0
    obtain ⟨⟨y2_0_0, y2_0_1, y2_0_2⟩, E2, h0⟩ := h0
    dsimp only at h0
    replace E2 := Aside0.mk E2
    replace h0 := Option.bind_eq_some_iff.mp h0
    obtain ⟨⟨y3_0, y3_1⟩, E3, h0⟩ := h0
    dsimp only at h0
    replace E3 := Aside0.mk E3
    replace h0 := Option.bind_eq_some_iff.mp h0
    obtain ⟨⟨y4_0_0, y4_0_1, y4_0_2⟩, E4, h0⟩ := h0
    dsimp only at h0
    replace E4 := Aside0.mk E4
    replace h0 := Option.bind_eq_some_iff.mp h0
    obtain ⟨⟨y5_0, y5_1⟩, E5, h0⟩ := h0
    dsimp only at h0
    replace E5 := Aside0.mk E5
    by_cases c5 : y5_1 = y3_1
    rotate_left
    · rw [if_neg c5] at h0; cases h0
    rw [if_pos c5] at h0
    have f5_0 : (y5_1 != y3_1) = false := by rw [bne_eq_false_iff_eq]; exact c5
    clear c5
    replace h0 := Option.bind_eq_some_iff.mp h0
    obtain ⟨y6_0, E6, h0⟩ := h0
    replace E6 := Aside0.mk E6
    by_cases c6 : y6_0 = true
    rotate_left
    · rw [if_neg c6] at h0; cases h0
    rw [if_pos c6] at h0
    subst c6
    replace h0 := Option.bind_eq_some_iff.mp h0
    obtain ⟨⟨y7_0_0, y7_0_1, y7_0_2⟩, E7, h0⟩ := h0
    dsimp only at h0
    replace E7 := Aside0.mk E7
    replace h0 := Option.bind_eq_some_iff.mp h0
    obtain ⟨y8_0, E8, h0⟩ := h0
    replace E8 := Aside0.mk E8
    by_cases c8 : y8_0 = true
    rotate_left
    · rw [if_neg c8] at h0; cases h0
    rw [if_pos c8] at h0
    subst c8
    replace h0 := Option.bind_eq_some_iff.mp h0
    obtain ⟨⟨y9_0, z9⟩, E9, h0⟩ := h0
    dsimp only at h0
    replace E9 := Aside0.mk E9
    by_cases c9 : 0 ≤ y9_0
    rotate_left
    · rw [if_neg c9] at h0; cases h0
    rw [if_pos c9] at h0
    have d9 : decide (y9_0 < 0) = false := decide_eq_false (by omega)
    clear c9
    replace h0 := Option.bind_eq_some_iff.mp h0
    obtain ⟨y10_0, E10, h0⟩ := h0
    replace E10 := Aside0.mk E10
    by_cases c10 : y10_0 = true
    rotate_left
    · rw [if_neg c10] at h0; cases h0
    rw [if_pos c10] at h0
    subst c10
    replace h0 := Option.bind_eq_some_iff.mp h0
    obtain ⟨⟨y11_0, z11⟩, E11, h0⟩ := h0
    dsimp only at h0
    replace E11 := Aside0.mk E11
    by_cases c11 : 0 ≤ y11_0
    rotate_left
    · rw [if_neg c11] at h0; cases h0
    rw [if_pos c11] at h0
    have d11 : decide (y11_0 < 0) = false := decide_eq_false (by omega)
    clear c11
    replace h0 := Option.bind_eq_some_iff.mp h0
    obtain ⟨y12_0, E12, h0⟩ := h0
    replace E12 := Aside0.mk E12
    by_cases c12 : 0 ≤ y12_0 ∧ y12_0 = y11_0
    rotate_left
    · rw [if_neg c12] at h0; cases h0
    rw [if_pos c12] at h0
    have d12 : decide (y12_0 < 0) = false := decide_eq_false (by omega)
    have f12 : (y12_0 != y11_0) = false := by rw [bne_eq_false_iff_eq]; exact c12.2
    clear c12
    replace h0 := Option.bind_eq_some_iff.mp h0
    obtain ⟨⟨y13_0_0, y13_0_1, y13_0_2⟩, E13, h0⟩ := h0
    dsimp only at h0
    replace E13 := Aside0.mk E13
    replace h0 := Option.bind_eq_some_iff.mp h0
    obtain ⟨⟨y14_0, y14_1⟩, E14, h0⟩ := h0
    dsimp only at h0
    replace E14 := Aside0.mk E14
    by_cases c14 : y14_1 = y3_1
    rotate_left
    · rw [if_neg c14] at h0; cases h0
    rw [if_pos c14] at h0
    have f14_0 : (y14_1 != y3_1) = false := by rw [bne_eq_false_iff_eq]; exact c14
    clear c14
    replace h0 := Option.bind_eq_some_iff.mp h0
    obtain ⟨y15_0, E15, h0⟩ := h0
    replace E15 := Aside0.mk E15
    by_cases c15 : y15_0 = true
    rotate_left
    · rw [if_neg c15] at h0; cases h0
    rw [if_pos c15] at h0
    subst c15
    replace h0 := Option.bind_eq_some_iff.mp h0
    obtain ⟨y16_0, E16, h0⟩ := h0
    replace E16 := Aside0.mk E16
    by_cases c16 : 0 ≤ y16_0 ∧ y16_0 = y11_0
    rotate_left
    · rw [if_neg c16] at h0; cases h0
    rw [if_pos c16] at h0
    have d16 : decide (y16_0 < 0) = false := decide_eq_false (by omega)
    have f16 : (y16_0 != y11_0) = false := by rw [bne_eq_false_iff_eq]; exact c16.2
    clear c16
    obtain rfl := Option.some.inj h0
    clear h0
    go_enter Try.func4, Try.ntmps4
    have z0_0_0 : (w.alloc (.cells #[.int .i64 a0_0, .int .i64 a0_1, .slice A0_2 l0_2.length c0_2] 32)).cell? ⟨w.heap.size, 0, none⟩ = some (.int .i64 a0_0) := blk_cell (new_at rfl) 0
    have z0_0_1 : (w.alloc (.cells #[.int .i64 a0_0, .int .i64 a0_1, .slice A0_2 l0_2.length c0_2] 32)).cell? ⟨w.heap.size, 1, none⟩ = some (.int .i64 a0_1) := blk_cell (new_at rfl) 1
    have z0_0_2 : (w.alloc (.cells #[.int .i64 a0_0, .int .i64 a0_1, .slice A0_2 l0_2.length c0_2] 32)).cell? ⟨w.heap.size, 2, none⟩ = some (.slice A0_2 l0_2.length c0_2) := blk_cell (new_at rfl) 2
    go_wp2_with (go_at_call 28; (with_reducible refine (laws_szSeries.calls k a0_0 a0_1 A0_2 c0_2 l0_2 1048576 y1_0 _ (Kd.C_below HR0_2.out (by repeat (first | (with_reducible first | exact B0.out | apply below_alloc | apply pw_below_drewN | apply below_drew1) | exact B0.out))) HC0_2.out E1.out).mono ?_); rintro e w1 ⟨rfl, hb⟩; have D_ : Below w.heap.size w w1 := below_step (by repeat (first | (with_reducible first | exact Below.refl _ _ | apply below_alloc | apply pw_below_drewN | apply below_drew1) | exact Below.refl _ _)) hb; have HS0 := Aside0.mk (show w1.heap[w.heap.size]? = some (.cells #[.int .i64 a0_0, .int .i64 a0_1, .slice A0_2 l0_2.length c0_2] 32 (0, 0)) from blk_below (new_at rfl) hb); have OB0 := Aside0.mk (show True from trivial); have B1 := Aside0.mk (below_step B0.out D_); have LB0 := Aside0.mk (show w.heap.size < w1.heap.size from blk_lt HS0.out); clear D_ hb; clear z0_0_0 z0_0_1 z0_0_2; have z1_0_0 : w1.cell? ⟨w.heap.size, 0, none⟩ = some (.int .i64 a0_0) := blk_cell HS0.out 0; have z1_0_1 : w1.cell? ⟨w.heap.size, 1, none⟩ = some (.int .i64 a0_1) := blk_cell HS0.out 1; have z1_0_2 : w1.cell? ⟨w.heap.size, 2, none⟩ = some (.slice A0_2 l0_2.length c0_2) := blk_cell HS0.out 2)
    go_wp2_with (go_at_call 30; (with_reducible refine (laws_toSeries.calls k a0_0 a0_1 A0_2 c0_2 l0_2 y2_0_0 y2_0_1 y2_0_2 _ (Kd.C_below HR0_2.out (by repeat (first | (with_reducible first | exact B1.out | apply below_alloc | apply pw_below_drewN | apply below_drew1) | exact B1.out))) HC0_2.out E2.out).mono ?_); rintro e w2 ⟨v_H2_0_2, rfl, ho_H2_0_2, hb⟩; have D_ : Below w1.heap.size w1 w2 := below_step (by repeat (first | (with_reducible first | exact Below.refl _ _ | apply below_alloc | apply pw_below_drewN | apply below_drew1) | exact Below.refl _ _)) hb; replace HS0 := Aside0.mk (show w2.heap[w.heap.size]? = some (.cells #[.int .i64 a0_0, .int .i64 a0_1, .slice A0_2 l0_2.length c0_2] 32 (0, 0)) from blk_below HS0.out D_); have B2 := Aside0.mk (below_step B1.out D_); obtain ⟨lo_H2_0_2, hi_H2_0_2, hlo_, hhi_, hx_⟩ : ∃ lo hi, w1.heap.size ≤ lo ∧ lo ≤ hi ∧ Go.Proofs.YtaiefdhenikiiaaA.AtR k79 79 lo hi w2 v_H2_0_2 y2_0_2 := ⟨_, _, by simp, by have := hb.size; simpa using this, Go.Proofs.YtaiefdhenikiiaaA.AtR.of ho_H2_0_2⟩; clear ho_H2_0_2; obtain ⟨A_H2_0_2, c_H2_0_2, rfl, l_⟩ := hx_.form; have H2_0_2L := Aside0.mk l_; have LO_H2_0_2 := Aside0.mk (show w.heap.size ≤ lo_H2_0_2 from by have := B1.out.size; omega); have OR_H2_0_2 := Aside0.mk (show lo_H2_0_2 ≤ hi_H2_0_2 ∧ w.heap.size < lo_H2_0_2 from ⟨hhi_, by have := LB0.out; omega⟩); have H2_0_2 := Aside0.mk hx_; clear hx_ l_ hlo_ hhi_; replace LB0 := Aside0.mk (show w.heap.size < w2.heap.size from blk_lt HS0.out); clear D_ hb; have PS_H2_0_2 := Aside0.mk (show hi_H2_0_2 ≤ w2.heap.size from And.right H2_0_2.out); clear z1_0_0 z1_0_1 z1_0_2; have z2_0_0 : w2.cell? ⟨w.heap.size, 0, none⟩ = some (.int .i64 a0_0) := blk_cell HS0.out 0; have z2_0_1 : w2.cell? ⟨w.heap.size, 1, none⟩ = some (.int .i64 a0_1) := blk_cell HS0.out 1; have z2_0_2 : w2.cell? ⟨w.heap.size, 2, none⟩ = some (.slice A0_2 l0_2.length c0_2) := blk_cell HS0.out 2)
    go_wp2_with (go_at_call 29; (with_reducible refine (spec_DegreesOf.calls k y2_0_0 y2_0_1 _ _ y2_0_2 y3_0 y3_1 _ (Kd.C_below H2_0_2.out.C (by repeat (first | (with_reducible first | exact Below.refl _ _ | apply below_alloc | apply pw_below_drewN | apply below_drew1) | exact Below.refl _ _))) H2_0_2L.out E3.out).mono ?_); rintro e w3 ⟨v_H3_0, rfl, ho_H3_0, hb⟩; have D_ : Below w2.heap.size w2 w3 := below_step (by repeat (first | (with_reducible first | exact Below.refl _ _ | apply below_alloc | apply pw_below_drewN | apply below_drew1) | exact Below.refl _ _)) hb; replace HS0 := Aside0.mk (show w3.heap[w.heap.size]? = some (.cells #[.int .i64 a0_0, .int .i64 a0_1, .slice A0_2 l0_2.length c0_2] 32 (0, 0)) from blk_below HS0.out D_); replace H2_0_2 := Aside0.mk (H2_0_2.out.below D_); have B3 := Aside0.mk (below_step B2.out D_); obtain ⟨lo_H3_0, hi_H3_0, hlo_, hhi_, hx_⟩ : ∃ lo hi, w2.heap.size ≤ lo ∧ lo ≤ hi ∧ Go.Proofs.YtaiefdhenikiiaaA.AtS (Kd.slice 2 (Kd.int .i64)) 50 lo hi w3 v_H3_0 y3_0 := ⟨_, _, by simp, by have := hb.size; simpa using this, Go.Proofs.YtaiefdhenikiiaaA.AtS.of ho_H3_0⟩; clear ho_H3_0; obtain ⟨A_H3_0, c_H3_0, rfl, l_⟩ := hx_.form; have H3_0L := Aside0.mk l_; have LO_H3_0 := Aside0.mk (show w.heap.size ≤ lo_H3_0 from by have := B2.out.size; omega); have OR_H3_0 := Aside0.mk (show lo_H3_0 ≤ hi_H3_0 ∧ hi_H2_0_2 ≤ lo_H3_0 ∧ w.heap.size < lo_H3_0 from ⟨hhi_, by have := PS_H2_0_2.out; omega, by have := LB0.out; omega⟩); have H3_0 := Aside0.mk hx_; clear hx_ l_ hlo_ hhi_; replace LB0 := Aside0.mk (show w.heap.size < w3.heap.size from blk_lt HS0.out); clear D_ hb; have PS_H2_0_2 := Aside0.mk (show hi_H2_0_2 ≤ w3.heap.size from And.right H2_0_2.out); have PS_H3_0 := Aside0.mk (show hi_H3_0 ≤ w3.heap.size from And.right H3_0.out); clear z2_0_0 z2_0_1 z2_0_2; have z3_0_0 : w3.cell? ⟨w.heap.size, 0, none⟩ = some (.int .i64 a0_0) := blk_cell HS0.out 0; have z3_0_1 : w3.cell? ⟨w.heap.size, 1, none⟩ = some (.int .i64 a0_1) := blk_cell HS0.out 1; have z3_0_2 : w3.cell? ⟨w.heap.size, 2, none⟩ = some (.slice A0_2 l0_2.length c0_2) := blk_cell HS0.out 2)
    go_wp2_with (go_at_call 30; (with_reducible refine (laws_toSeries.calls k a0_0 a0_1 A0_2 c0_2 l0_2 y4_0_0 y4_0_1 y4_0_2 _ (Kd.C_below HR0_2.out (by repeat (first | (with_reducible first | exact B3.out | apply below_alloc | apply pw_below_drewN | apply below_drew1) | exact B3.out))) HC0_2.out E4.out).mono ?_); rintro e w4 ⟨v_H4_0_2, rfl, ho_H4_0_2, hb⟩; have D_ : Below w3.heap.size w3 w4 := below_step (by repeat (first | (with_reducible first | exact Below.refl _ _ | apply below_alloc | apply pw_below_drewN | apply below_drew1) | exact Below.refl _ _)) hb; replace HS0 := Aside0.mk (show w4.heap[w.heap.size]? = some (.cells #[.int .i64 a0_0, .int .i64 a0_1, .slice A0_2 l0_2.length c0_2] 32 (0, 0)) from blk_below HS0.out D_); replace H2_0_2 := Aside0.mk (H2_0_2.out.below D_); replace H3_0 := Aside0.mk (H3_0.out.below D_); have B4 := Aside0.mk (below_step B3.out D_); obtain ⟨lo_H4_0_2, hi_H4_0_2, hlo_, hhi_, hx_⟩ : ∃ lo hi, w3.heap.size ≤ lo ∧ lo ≤ hi ∧ Go.Proofs.YtaiefdhenikiiaaA.AtR k79 79 lo hi w4 v_H4_0_2 y4_0_2 := ⟨_, _, by simp, by have := hb.size; simpa using this, Go.Proofs.YtaiefdhenikiiaaA.AtR.of ho_H4_0_2⟩; clear ho_H4_0_2; obtain ⟨A_H4_0_2, c_H4_0_2, rfl, l_⟩ := hx_.form; have H4_0_2L := Aside0.mk l_; have LO_H4_0_2 := Aside0.mk (show w.heap.size ≤ lo_H4_0_2 from by have := B3.out.size; omega); have OR_H4_0_2 := Aside0.mk (show lo_H4_0_2 ≤ hi_H4_0_2 ∧ hi_H2_0_2 ≤ lo_H4_0_2 ∧ hi_H3_0 ≤ lo_H4_0_2 ∧ w.heap.size < lo_H4_0_2 from ⟨hhi_, by have := PS_H2_0_2.out; omega, by have := PS_H3_0.out; omega, by have := LB0.out; omega⟩); have H4_0_2 := Aside0.mk hx_; clear hx_ l_ hlo_ hhi_; replace LB0 := Aside0.mk (show w.heap.size < w4.heap.size from blk_lt HS0.out); clear D_ hb; have PS_H2_0_2 := Aside0.mk (show hi_H2_0_2 ≤ w4.heap.size from And.right H2_0_2.out); have PS_H3_0 := Aside0.mk (show hi_H3_0 ≤ w4.heap.size from And.right H3_0.out); have PS_H4_0_2 := Aside0.mk (show hi_H4_0_2 ≤ w4.heap.size from And.right H4_0_2.out); clear z3_0_0 z3_0_1 z3_0_2; have z4_0_0 : (w4.alloc (.cells #[.int .i64 y4_0_0, .int .i64 y4_0_1, .slice A_H4_0_2 y4_0_2.length c_H4_0_2] 38)).cell? ⟨w.heap.size, 0, none⟩ = some (.int .i64 a0_0) := blk_cell (old_at HS0.out) 0; have z4_0_1 : (w4.alloc (.cells #[.int .i64 y4_0_0, .int .i64 y4_0_1, .slice A_H4_0_2 y4_0_2.length c_H4_0_2] 38)).cell? ⟨w.heap.size, 1, none⟩ = some (.int .i64 a0_1) := blk_cell (old_at HS0.out) 1; have z4_0_2 : (w4.alloc (.cells #[.int .i64 y4_0_0, .int .i64 y4_0_1, .slice A_H4_0_2 y4_0_2.length c_H4_0_2] 38)).cell? ⟨w.heap.size, 2, none⟩ = some (.slice A0_2 l0_2.length c0_2) := blk_cell (old_at HS0.out) 2)
    go_wp2_with (go_at_call 31; (with_reducible refine (impl_DegreesOf.calls k y4_0_0 y4_0_1 _ _ y4_0_2 y5_0 y5_1 _ (Kd.C_below H4_0_2.out.C (by repeat (first | (with_reducible first | exact Below.refl _ _ | apply below_alloc | apply pw_below_drewN | apply below_drew1) | exact Below.refl _ _))) H4_0_2L.out E5.out).mono ?_); rintro e w5 ⟨v_H5_0, rfl, ho_H5_0, hb⟩; have D_ : Below w4.heap.size w4 w5 := below_step (by repeat (first | (with_reducible first | exact Below.refl _ _ | apply below_alloc | apply pw_below_drewN | apply below_drew1) | exact Below.refl _ _)) hb; have HS1 := Aside0.mk (show SrAt w5 (w4.heap.size) (y4_0_0) (y4_0_1) (.slice A_H4_0_2 y4_0_2.length c_H4_0_2) from blk_below (new_at rfl) hb); replace HS0 := Aside0.mk (show w5.heap[w.heap.size]? = some (.cells #[.int .i64 a0_0, .int .i64 a0_1, .slice A0_2 l0_2.length c0_2] 32 (0, 0)) from blk_below HS0.out D_); have OB1 := Aside0.mk (show True ∧ hi_H2_0_2 ≤ w4.heap.size ∧ hi_H3_0 ≤ w4.heap.size ∧ hi_H4_0_2 ≤ w4.heap.size from ⟨trivial, Nat.le_trans (And.right H2_0_2.out) (by simp), Nat.le_trans (And.right H3_0.out) (by simp), Nat.le_trans (And.right H4_0_2.out) (by simp)⟩); replace H2_0_2 := Aside0.mk (H2_0_2.out.below D_); replace H3_0 := Aside0.mk (H3_0.out.below D_); replace H4_0_2 := Aside0.mk (H4_0_2.out.below D_); have B5 := Aside0.mk (below_step B4.out D_); obtain ⟨lo_H5_0, hi_H5_0, hlo_, hhi_, hx_⟩ : ∃ lo hi, w4.heap.size + 1 ≤ lo ∧ lo ≤ hi ∧ Go.Proofs.YtaiefdhenikiiaaA.AtS (Kd.slice 2 (Kd.int .i64)) 50 lo hi w5 v_H5_0 y5_0 := ⟨_, _, by simp, by have := hb.size; simpa using this, Go.Proofs.YtaiefdhenikiiaaA.AtS.of ho_H5_0⟩; clear ho_H5_0; obtain ⟨A_H5_0, c_H5_0, rfl, l_⟩ := hx_.form; have H5_0L := Aside0.mk l_; have LO_H5_0 := Aside0.mk (show w.heap.size ≤ lo_H5_0 from by have := B4.out.size; omega); have OR_H5_0 := Aside0.mk (show lo_H5_0 ≤ hi_H5_0 ∧ hi_H2_0_2 ≤ lo_H5_0 ∧ hi_H3_0 ≤ lo_H5_0 ∧ hi_H4_0_2 ≤ lo_H5_0 ∧ w.heap.size < lo_H5_0 ∧ w4.heap.size < lo_H5_0 from ⟨hhi_, by have := PS_H2_0_2.out; omega, by have := PS_H3_0.out; omega, by have := PS_H4_0_2.out; omega, by have := LB0.out; omega, by omega⟩); have H5_0 := Aside0.mk hx_; clear hx_ l_ hlo_ hhi_; replace LB0 := Aside0.mk (show w.heap.size < w5.heap.size from blk_lt HS0.out); have LB1 := Aside0.mk (show w4.heap.size < w5.heap.size from blk_lt HS1.out); clear D_ hb; have PS_H2_0_2 := Aside0.mk (show hi_H2_0_2 ≤ w5.heap.size from And.right H2_0_2.out); have PS_H3_0 := Aside0.mk (show hi_H3_0 ≤ w5.heap.size from And.right H3_0.out); have PS_H4_0_2 := Aside0.mk (show hi_H4_0_2 ≤ w5.heap.size from And.right H4_0_2.out); have PS_H5_0 := Aside0.mk (show hi_H5_0 ≤ w5.heap.size from And.right H5_0.out); clear z4_0_0 z4_0_1 z4_0_2; have z5_0_0 : w5.cell? ⟨w.heap.size, 0, none⟩ = some (.int .i64 a0_0) := blk_cell HS0.out 0; have z5_0_1 : w5.cell? ⟨w.heap.size, 1, none⟩ = some (.int .i64 a0_1) := blk_cell HS0.out 1; have z5_0_2 : w5.cell? ⟨w.heap.size, 2, none⟩ = some (.slice A0_2 l0_2.length c0_2) := blk_cell HS0.out 2; have z5_1_0 : w5.cell? ⟨w4.heap.size, 0, none⟩ = some (.int .i64 y4_0_0) := SrAt.c0 HS1.out; have z5_1_1 : w5.cell? ⟨w4.heap.size, 1, none⟩ = some (.int .i64 y4_0_1) := SrAt.c1 HS1.out; have z5_1_2 : w5.cell? ⟨w4.heap.size, 2, none⟩ = some (.slice A_H4_0_2 y4_0_2.length c_H4_0_2) := SrAt.c2 HS1.out)
    go_wp2_with (go_at_call 32; (with_reducible refine (laws_eqInt64SS.calls k _ _ y5_0 _ _ y3_0 true _ (Kd.C_below H5_0.out.C (by repeat (first | (with_reducible first | exact Below.refl _ _ | apply below_alloc | apply pw_below_drewN | apply below_drew1) | exact Below.refl _ _))) H5_0L.out (Kd.C_below H3_0.out.C (by repeat (first | (with_reducible first | exact Below.refl _ _ | apply below_alloc | apply pw_below_drewN | apply below_drew1) | exact Below.refl _ _))) H3_0L.out E6.out).mono ?_); rintro e w6 ⟨rfl, hd⟩; have D_ : Below w5.heap.size w5 w6 := below_step (by repeat (first | (with_reducible first | exact Below.refl _ _ | apply below_alloc | apply pw_below_drewN | apply below_drew1) | exact Below.refl _ _)) (Go.Proofs.YtaiefdhenikiiaaA.below_drawn hd); replace HS0 := Aside0.mk (show w6.heap[w.heap.size]? = some (.cells #[.int .i64 a0_0, .int .i64 a0_1, .slice A0_2 l0_2.length c0_2] 32 (0, 0)) from blk_below HS0.out D_); replace HS1 := Aside0.mk (show SrAt w6 (w4.heap.size) (y4_0_0) (y4_0_1) (.slice A_H4_0_2 y4_0_2.length c_H4_0_2) from blk_below HS1.out D_); replace H2_0_2 := Aside0.mk (H2_0_2.out.below D_); replace H3_0 := Aside0.mk (H3_0.out.below D_); replace H4_0_2 := Aside0.mk (H4_0_2.out.below D_); replace H5_0 := Aside0.mk (H5_0.out.below D_); have B6 := Aside0.mk (below_step B5.out D_); replace LB0 := Aside0.mk (show w.heap.size < w6.heap.size from blk_lt HS0.out); replace LB1 := Aside0.mk (show w4.heap.size < w6.heap.size from blk_lt HS1.out); clear D_ hd; have PS_H2_0_2 := Aside0.mk (show hi_H2_0_2 ≤ w6.heap.size from And.right H2_0_2.out); have PS_H3_0 := Aside0.mk (show hi_H3_0 ≤ w6.heap.size from And.right H3_0.out); have PS_H4_0_2 := Aside0.mk (show hi_H4_0_2 ≤ w6.heap.size from And.right H4_0_2.out); have PS_H5_0 := Aside0.mk (show hi_H5_0 ≤ w6.heap.size from And.right H5_0.out); clear z5_0_0 z5_0_1 z5_0_2 z5_1_0 z5_1_1 z5_1_2; have z6_0_0 : w6.cell? ⟨w.heap.size, 0, none⟩ = some (.int .i64 a0_0) := blk_cell HS0.out 0; have z6_0_1 : w6.cell? ⟨w.heap.size, 1, none⟩ = some (.int .i64 a0_1) := blk_cell HS0.out 1; have z6_0_2 : w6.cell? ⟨w.heap.size, 2, none⟩ = some (.slice A0_2 l0_2.length c0_2) := blk_cell HS0.out 2; have z6_1_0 : w6.cell? ⟨w4.heap.size, 0, none⟩ = some (.int .i64 y4_0_0) := SrAt.c0 HS1.out; have z6_1_1 : w6.cell? ⟨w4.heap.size, 1, none⟩ = some (.int .i64 y4_0_1) := SrAt.c1 HS1.out; have z6_1_2 : w6.cell? ⟨w4.heap.size, 2, none⟩ = some (.slice A_H4_0_2 y4_0_2.length c_H4_0_2) := SrAt.c2 HS1.out)
    go_region_held3 (fun w' => w'.cell? ⟨w.heap.size, 0, none⟩ = some (.int .i64 a0_0) ∧ w'.cell? ⟨w.heap.size, 1, none⟩ = some (.int .i64 a0_1) ∧ w'.cell? ⟨w.heap.size, 2, none⟩ = some (.slice A0_2 l0_2.length c0_2) ∧ w'.cell? ⟨w4.heap.size, 0, none⟩ = some (.int .i64 y4_0_0) ∧ w'.cell? ⟨w4.heap.size, 1, none⟩ = some (.int .i64 y4_0_1) ∧ w'.cell? ⟨w4.heap.size, 2, none⟩ = some (.slice A_H4_0_2 y4_0_2.length c_H4_0_2)) (exact laws_FnExactDegreesOf.keep z6_0_0 z6_0_1 z6_0_2 z6_1_0 z6_1_1 z6_1_2 (by (repeat' (first | (with_reducible exact Below.refl _ _) | (with_reducible exact HK7.out) | (with_reducible exact HK8.out) | (with_reducible refine below_drew1 ?_) | (with_reducible refine pw_below_drewN ?_ _) | (with_reducible refine below_alloc ?_ _))))) (first | (go_at_call 30; (with_reducible refine (laws_toSeries.calls k a0_0 a0_1 A0_2 c0_2 l0_2 y7_0_0 y7_0_1 y7_0_2 _ (Kd.C_below HR0_2.out (by repeat (first | (with_reducible first | exact B6.out | apply below_alloc | apply pw_below_drewN | apply below_drew1) | exact B6.out))) HC0_2.out E7.out).mono ?_); rintro e w7 ⟨v_H7_0_2, rfl, ho_H7_0_2, hb⟩; have D_ : Below w6.heap.size w6 w7 := below_step (by repeat (first | (with_reducible first | exact Below.refl _ _ | apply below_alloc | apply pw_below_drewN | apply below_drew1) | exact Below.refl _ _)) hb; replace HS0 := Aside0.mk (show w7.heap[w.heap.size]? = some (.cells #[.int .i64 a0_0, .int .i64 a0_1, .slice A0_2 l0_2.length c0_2] 32 (0, 0)) from blk_below HS0.out D_); replace HS1 := Aside0.mk (show SrAt w7 (w4.heap.size) (y4_0_0) (y4_0_1) (.slice A_H4_0_2 y4_0_2.length c_H4_0_2) from blk_below HS1.out D_); replace H2_0_2 := Aside0.mk (H2_0_2.out.below D_); replace H3_0 := Aside0.mk (H3_0.out.below D_); replace H4_0_2 := Aside0.mk (H4_0_2.out.below D_); replace H5_0 := Aside0.mk (H5_0.out.below D_); have B7 := Aside0.mk (below_step B6.out D_); obtain ⟨lo_H7_0_2, hi_H7_0_2, hlo_, hhi_, hx_⟩ : ∃ lo hi, w6.heap.size ≤ lo ∧ lo ≤ hi ∧ Go.Proofs.YtaiefdhenikiiaaA.AtR k79 79 lo hi w7 v_H7_0_2 y7_0_2 := ⟨_, _, by simp, by have := hb.size; simpa using this, Go.Proofs.YtaiefdhenikiiaaA.AtR.of ho_H7_0_2⟩; clear ho_H7_0_2; obtain ⟨A_H7_0_2, c_H7_0_2, rfl, l_⟩ := hx_.form; have H7_0_2L := Aside0.mk l_; have LO_H7_0_2 := Aside0.mk (show w.heap.size ≤ lo_H7_0_2 from by have := B6.out.size; omega); have OR_H7_0_2 := Aside0.mk (show lo_H7_0_2 ≤ hi_H7_0_2 ∧ hi_H2_0_2 ≤ lo_H7_0_2 ∧ hi_H3_0 ≤ lo_H7_0_2 ∧ hi_H4_0_2 ≤ lo_H7_0_2 ∧ hi_H5_0 ≤ lo_H7_0_2 ∧ w.heap.size < lo_H7_0_2 ∧ w4.heap.size < lo_H7_0_2 from ⟨hhi_, by have := PS_H2_0_2.out; omega, by have := PS_H3_0.out; omega, by have := PS_H4_0_2.out; omega, by have := PS_H5_0.out; omega, by have := LB0.out; omega, by have := LB1.out; omega⟩); have H7_0_2 := Aside0.mk hx_; clear hx_ l_ hlo_ hhi_; replace LB0 := Aside0.mk (show w.heap.size < w7.heap.size from blk_lt HS0.out); replace LB1 := Aside0.mk (show w4.heap.size < w7.heap.size from blk_lt HS1.out); have HK7 := Aside0.mk (show Below w6.heap.size w6 w7 from D_); clear D_ hb; have PS_H2_0_2 := Aside0.mk (show hi_H2_0_2 ≤ w7.heap.size from And.right H2_0_2.out); have PS_H3_0 := Aside0.mk (show hi_H3_0 ≤ w7.heap.size from And.right H3_0.out); have PS_H4_0_2 := Aside0.mk (show hi_H4_0_2 ≤ w7.heap.size from And.right H4_0_2.out); have PS_H5_0 := Aside0.mk (show hi_H5_0 ≤ w7.heap.size from And.right H5_0.out); have PS_H7_0_2 := Aside0.mk (show hi_H7_0_2 ≤ w7.heap.size from And.right H7_0_2.out)) | (go_at_call 33; (with_reducible refine (laws_eqSeries.calls k y4_0_0 y4_0_1 _ _ y4_0_2 y7_0_0 y7_0_1 _ _ y7_0_2 true _ (Kd.C_below H4_0_2.out.C (by repeat (first | (with_reducible first | exact Below.refl _ _ | apply below_alloc | apply pw_below_drewN | apply below_drew1) | exact Below.refl _ _))) H4_0_2L.out (Kd.C_below H7_0_2.out.C (by repeat (first | (with_reducible first | exact Below.refl _ _ | apply below_alloc | apply pw_below_drewN | apply below_drew1) | exact Below.refl _ _))) H7_0_2L.out E8.out).mono ?_); rintro e w8 ⟨rfl, hb⟩; have D_ : Below w7.heap.size w7 w8 := below_step (by repeat (first | (with_reducible first | exact Below.refl _ _ | apply below_alloc | apply pw_below_drewN | apply below_drew1) | exact Below.refl _ _)) hb; replace HS0 := Aside0.mk (show w8.heap[w.heap.size]? = some (.cells #[.int .i64 a0_0, .int .i64 a0_1, .slice A0_2 l0_2.length c0_2] 32 (0, 0)) from blk_below HS0.out D_); replace HS1 := Aside0.mk (show SrAt w8 (w4.heap.size) (y4_0_0) (y4_0_1) (.slice A_H4_0_2 y4_0_2.length c_H4_0_2) from blk_below HS1.out D_); replace H2_0_2 := Aside0.mk (H2_0_2.out.below D_); replace H3_0 := Aside0.mk (H3_0.out.below D_); replace H4_0_2 := Aside0.mk (H4_0_2.out.below D_); replace H5_0 := Aside0.mk (H5_0.out.below D_); replace H7_0_2 := Aside0.mk (H7_0_2.out.below D_); have B8 := Aside0.mk (below_step B7.out D_); replace LB0 := Aside0.mk (show w.heap.size < w8.heap.size from blk_lt HS0.out); replace LB1 := Aside0.mk (show w4.heap.size < w8.heap.size from blk_lt HS1.out); have HK8 := Aside0.mk (show Below w6.heap.size w6 w8 from below_step HK7.out D_); clear D_ hb; have PS_H2_0_2 := Aside0.mk (show hi_H2_0_2 ≤ w8.heap.size from And.right H2_0_2.out); have PS_H3_0 := Aside0.mk (show hi_H3_0 ≤ w8.heap.size from And.right H3_0.out); have PS_H4_0_2 := Aside0.mk (show hi_H4_0_2 ≤ w8.heap.size from And.right H4_0_2.out); have PS_H5_0 := Aside0.mk (show hi_H5_0 ≤ w8.heap.size from And.right H5_0.out); have PS_H7_0_2 := Aside0.mk (show hi_H7_0_2 ≤ w8.heap.size from And.right H7_0_2.out); have z8_0_0 : w8.cell? ⟨w.heap.size, 0, none⟩ = some (.int .i64 a0_0) := blk_cell HS0.out 0; have z8_0_1 : w8.cell? ⟨w.heap.size, 1, none⟩ = some (.int .i64 a0_1) := blk_cell HS0.out 1; have z8_0_2 : w8.cell? ⟨w.heap.size, 2, none⟩ = some (.slice A0_2 l0_2.length c0_2) := blk_cell HS0.out 2; have z8_1_0 : w8.cell? ⟨w4.heap.size, 0, none⟩ = some (.int .i64 y4_0_0) := SrAt.c0 HS1.out; have z8_1_1 : w8.cell? ⟨w4.heap.size, 1, none⟩ = some (.int .i64 y4_0_1) := SrAt.c1 HS1.out; have z8_1_2 : w8.cell? ⟨w4.heap.size, 2, none⟩ = some (.slice A_H4_0_2 y4_0_2.length c_H4_0_2) := SrAt.c2 HS1.out))
    clear z6_0_0 z6_0_1 z6_0_2 z6_1_0 z6_1_1 z6_1_2 HK7 HK8
    go_wp2_with (go_at_call 34; (with_reducible refine (laws_markSeries.calls k y4_0_0 y4_0_1 (fun k_ => lo_H4_0_2 ≤ k_ ∧ k_ < hi_H4_0_2) _ y4_0_2 1 y9_0 z9 w _ (by repeat (first | (with_reducible first | exact B8.out | apply below_alloc | apply pw_below_drewN | apply below_drew1) | exact B8.out)) (Kd.R_below (Go.Proofs.YtaiefdhenikiiaaA.AtR.mark H4_0_2.out LO_H4_0_2.out) (by repeat (first | (with_reducible first | exact Below.refl _ _ | apply below_alloc | apply pw_below_drewN | apply below_drew1) | exact Below.refl _ _))) E9.out).mono ?_); rintro e w9 ⟨rfl, ho, hb, hk⟩; have B9 := Aside0.mk hb; have KP := Aside0.mk (show Kept w8 w9 (fun k_ => lo_H4_0_2 ≤ k_ ∧ k_ < hi_H4_0_2) from Kept.then_ (Kept.of_below (by repeat (first | (with_reducible first | exact Below.refl _ _ | apply below_alloc | apply pw_below_drewN | apply below_drew1) | exact Below.refl _ _)) _) hk (fun _ h_ => .inl h_)); have HN := Aside0.mk (Go.Proofs.YtaiefdhenikiiaaA.AtR.of ho); clear ho hb hk; replace H2_0_2 := Aside0.mk (Go.Proofs.YtaiefdhenikiiaaA.AtR.kept H2_0_2.out KP.out (by have := OR_H4_0_2.out; have := OR_H2_0_2.out; omega)); replace H3_0 := Aside0.mk (Go.Proofs.YtaiefdhenikiiaaA.AtS.kept H3_0.out KP.out (by have := OR_H4_0_2.out; have := OR_H3_0.out; omega)); replace H5_0 := Aside0.mk (Go.Proofs.YtaiefdhenikiiaaA.AtS.kept H5_0.out KP.out (by have := OR_H4_0_2.out; have := OR_H5_0.out; omega)); replace H7_0_2 := Aside0.mk (Go.Proofs.YtaiefdhenikiiaaA.AtR.kept H7_0_2.out KP.out (by have := OR_H4_0_2.out; have := OR_H7_0_2.out; omega)); replace HS0 := Aside0.mk (show w9.heap[w.heap.size]? = some (.cells #[.int .i64 a0_0, .int .i64 a0_1, .slice A0_2 l0_2.length c0_2] 32 (0, 0)) from (KP.out.2 _ (blk_lt HS0.out) (by have := OR_H4_0_2.out; have := OB0.out; omega)).trans HS0.out); replace HS1 := Aside0.mk (show SrAt w9 (w4.heap.size) (y4_0_0) (y4_0_1) (.slice A_H4_0_2 y4_0_2.length c_H4_0_2) from (KP.out.2 _ (blk_lt HS1.out) (by have := OR_H4_0_2.out; have := OB1.out; omega)).trans HS1.out); replace H4_0_2 := HN; clear HN KP; obtain ⟨A_, c_, e_, l_⟩ := H4_0_2.out.form; injection e_ with e1_ e2_ e3_; replace H4_0_2L := Aside0.mk (e3_ ▸ l_); clear l_ e1_ e3_; (first | rw [e2_] | skip); replace H4_0_2 := Aside0.mk (e2_ ▸ H4_0_2.out); replace HS1 := Aside0.mk (show SrAt w9 (w4.heap.size) (y4_0_0) (y4_0_1) (.slice A_H4_0_2 z9.length c_H4_0_2) from by rw [← e2_]; exact HS1.out); clear e2_; replace LB0 := Aside0.mk (show w.heap.size < w9.heap.size from blk_lt HS0.out); replace LB1 := Aside0.mk (show w4.heap.size < w9.heap.size from blk_lt HS1.out); have PS_H2_0_2 := Aside0.mk (show hi_H2_0_2 ≤ w9.heap.size from And.right H2_0_2.out); have PS_H3_0 := Aside0.mk (show hi_H3_0 ≤ w9.heap.size from And.right H3_0.out); have PS_H5_0 := Aside0.mk (show hi_H5_0 ≤ w9.heap.size from And.right H5_0.out); have PS_H7_0_2 := Aside0.mk (show hi_H7_0_2 ≤ w9.heap.size from And.right H7_0_2.out); clear z8_0_0 z8_0_1 z8_0_2 z8_1_0 z8_1_1 z8_1_2; have z9_0_0 : w9.cell? ⟨w.heap.size, 0, none⟩ = some (.int .i64 a0_0) := blk_cell HS0.out 0; have z9_0_1 : w9.cell? ⟨w.heap.size, 1, none⟩ = some (.int .i64 a0_1) := blk_cell HS0.out 1; have z9_0_2 : w9.cell? ⟨w.heap.size, 2, none⟩ = some (.slice A0_2 l0_2.length c0_2) := blk_cell HS0.out 2; have z9_1_0 : w9.cell? ⟨w4.heap.size, 0, none⟩ = some (.int .i64 y4_0_0) := SrAt.c0 HS1.out; have z9_1_1 : w9.cell? ⟨w4.heap.size, 1, none⟩ = some (.int .i64 y4_0_1) := SrAt.c1 HS1.out; have z9_1_2 : w9.cell? ⟨w4.heap.size, 2, none⟩ = some (.slice A_H4_0_2 z9.length c_H4_0_2) := SrAt.c2 HS1.out)
    go_wp2_with (go_at_call 32; (with_reducible refine (laws_eqInt64SS.calls k _ _ y5_0 _ _ y3_0 true _ (Kd.C_below H5_0.out.C (by repeat (first | (with_reducible first | exact Below.refl _ _ | apply below_alloc | apply pw_below_drewN | apply below_drew1) | exact Below.refl _ _))) H5_0L.out (Kd.C_below H3_0.out.C (by repeat (first | (with_reducible first | exact Below.refl _ _ | apply below_alloc | apply pw_below_drewN | apply below_drew1) | exact Below.refl _ _))) H3_0L.out E10.out).mono ?_); rintro e w10 ⟨rfl, hd⟩; have D_ : Below w9.heap.size w9 w10 := below_step (by repeat (first | (with_reducible first | exact Below.refl _ _ | apply below_alloc | apply pw_below_drewN | apply below_drew1) | exact Below.refl _ _)) (Go.Proofs.YtaiefdhenikiiaaA.below_drawn hd); replace HS0 := Aside0.mk (show w10.heap[w.heap.size]? = some (.cells #[.int .i64 a0_0, .int .i64 a0_1, .slice A0_2 l0_2.length c0_2] 32 (0, 0)) from blk_below HS0.out D_); replace HS1 := Aside0.mk (show SrAt w10 (w4.heap.size) (y4_0_0) (y4_0_1) (.slice A_H4_0_2 z9.length c_H4_0_2) from blk_below HS1.out D_); replace H2_0_2 := Aside0.mk (H2_0_2.out.below D_); replace H3_0 := Aside0.mk (H3_0.out.below D_); replace H4_0_2 := Aside0.mk (H4_0_2.out.below D_); replace H5_0 := Aside0.mk (H5_0.out.below D_); replace H7_0_2 := Aside0.mk (H7_0_2.out.below D_); have B10 := Aside0.mk (below_step B9.out D_); replace LB0 := Aside0.mk (show w.heap.size < w10.heap.size from blk_lt HS0.out); replace LB1 := Aside0.mk (show w4.heap.size < w10.heap.size from blk_lt HS1.out); clear D_ hd; have PS_H2_0_2 := Aside0.mk (show hi_H2_0_2 ≤ w10.heap.size from And.right H2_0_2.out); have PS_H3_0 := Aside0.mk (show hi_H3_0 ≤ w10.heap.size from And.right H3_0.out); have PS_H5_0 := Aside0.mk (show hi_H5_0 ≤ w10.heap.size from And.right H5_0.out); have PS_H7_0_2 := Aside0.mk (show hi_H7_0_2 ≤ w10.heap.size from And.right H7_0_2.out); clear z9_0_0 z9_0_1 z9_0_2 z9_1_0 z9_1_1 z9_1_2; have z10_0_0 : w10.cell? ⟨w.heap.size, 0, none⟩ = some (.int .i64 a0_0) := blk_cell HS0.out 0; have z10_0_1 : w10.cell? ⟨w.heap.size, 1, none⟩ = some (.int .i64 a0_1) := blk_cell HS0.out 1; have z10_0_2 : w10.cell? ⟨w.heap.size, 2, none⟩ = some (.slice A0_2 l0_2.length c0_2) := blk_cell HS0.out 2; have z10_1_0 : w10.cell? ⟨w4.heap.size, 0, none⟩ = some (.int .i64 y4_0_0) := SrAt.c0 HS1.out; have z10_1_1 : w10.cell? ⟨w4.heap.size, 1, none⟩ = some (.int .i64 y4_0_1) := SrAt.c1 HS1.out; have z10_1_2 : w10.cell? ⟨w4.heap.size, 2, none⟩ = some (.slice A_H4_0_2 z9.length c_H4_0_2) := SrAt.c2 HS1.out)
    go_wp2_with (go_at_call 35; (with_reducible refine (laws_markInt64SS.calls k  (fun k_ => lo_H5_0 ≤ k_ ∧ k_ < hi_H5_0) _ y5_0 1 y11_0 z11 w _ (by repeat (first | (with_reducible first | exact B10.out | apply below_alloc | apply pw_below_drewN | apply below_drew1) | exact B10.out)) (Kd.S_below (Go.Proofs.YtaiefdhenikiiaaA.AtS.mark H5_0.out LO_H5_0.out) (by repeat (first | (with_reducible first | exact Below.refl _ _ | apply below_alloc | apply pw_below_drewN | apply below_drew1) | exact Below.refl _ _))) E11.out).mono ?_); rintro e w11 ⟨rfl, ho, hb, hk⟩; have B11 := Aside0.mk hb; have KP := Aside0.mk (show Kept w10 w11 (fun k_ => lo_H5_0 ≤ k_ ∧ k_ < hi_H5_0) from Kept.then_ (Kept.of_below (by repeat (first | (with_reducible first | exact Below.refl _ _ | apply below_alloc | apply pw_below_drewN | apply below_drew1) | exact Below.refl _ _)) _) hk (fun _ h_ => .inl h_)); have HN := Aside0.mk (Go.Proofs.YtaiefdhenikiiaaA.AtS.of ho); clear ho hb hk; replace H2_0_2 := Aside0.mk (Go.Proofs.YtaiefdhenikiiaaA.AtR.kept H2_0_2.out KP.out (by have := OR_H5_0.out; have := OR_H2_0_2.out; omega)); replace H3_0 := Aside0.mk (Go.Proofs.YtaiefdhenikiiaaA.AtS.kept H3_0.out KP.out (by have := OR_H5_0.out; have := OR_H3_0.out; omega)); clear H4_0_2 H4_0_2L; replace H7_0_2 := Aside0.mk (Go.Proofs.YtaiefdhenikiiaaA.AtR.kept H7_0_2.out KP.out (by have := OR_H5_0.out; have := OR_H7_0_2.out; omega)); replace HS0 := Aside0.mk (show w11.heap[w.heap.size]? = some (.cells #[.int .i64 a0_0, .int .i64 a0_1, .slice A0_2 l0_2.length c0_2] 32 (0, 0)) from (KP.out.2 _ (blk_lt HS0.out) (by have := OR_H5_0.out; have := OB0.out; omega)).trans HS0.out); replace HS1 := Aside0.mk (show SrAt w11 (w4.heap.size) (y4_0_0) (y4_0_1) (.slice A_H4_0_2 z9.length c_H4_0_2) from (KP.out.2 _ (blk_lt HS1.out) (by have := OR_H5_0.out; have := OB1.out; omega)).trans HS1.out); replace H5_0 := HN; clear HN KP; obtain ⟨A_, c_, e_, l_⟩ := H5_0.out.form; injection e_ with e1_ e2_ e3_; replace H5_0L := Aside0.mk (e3_ ▸ l_); clear l_ e1_ e3_; (first | rw [e2_] | skip); replace H5_0 := Aside0.mk (e2_ ▸ H5_0.out); clear e2_; replace LB0 := Aside0.mk (show w.heap.size < w11.heap.size from blk_lt HS0.out); replace LB1 := Aside0.mk (show w4.heap.size < w11.heap.size from blk_lt HS1.out); have PS_H2_0_2 := Aside0.mk (show hi_H2_0_2 ≤ w11.heap.size from And.right H2_0_2.out); have PS_H3_0 := Aside0.mk (show hi_H3_0 ≤ w11.heap.size from And.right H3_0.out); have PS_H7_0_2 := Aside0.mk (show hi_H7_0_2 ≤ w11.heap.size from And.right H7_0_2.out); clear z10_0_0 z10_0_1 z10_0_2 z10_1_0 z10_1_1 z10_1_2; have z11_0_0 : w11.cell? ⟨w.heap.size, 0, none⟩ = some (.int .i64 a0_0) := blk_cell HS0.out 0; have z11_0_1 : w11.cell? ⟨w.heap.size, 1, none⟩ = some (.int .i64 a0_1) := blk_cell HS0.out 1; have z11_0_2 : w11.cell? ⟨w.heap.size, 2, none⟩ = some (.slice A0_2 l0_2.length c0_2) := blk_cell HS0.out 2; have z11_1_0 : w11.cell? ⟨w4.heap.size, 0, none⟩ = some (.int .i64 y4_0_0) := SrAt.c0 HS1.out; have z11_1_1 : w11.cell? ⟨w4.heap.size, 1, none⟩ = some (.int .i64 y4_0_1) := SrAt.c1 HS1.out; have z11_1_2 : w11.cell? ⟨w4.heap.size, 2, none⟩ = some (.slice A_H4_0_2 z9.length c_H4_0_2) := SrAt.c2 HS1.out)
    go_wp2_with (go_at_call 36; (with_reducible refine (laws_heldInt64SS.calls k _ _ z11 1 y12_0 _ (Kd.C_below H5_0.out.C (by repeat (first | (with_reducible first | exact Below.refl _ _ | apply below_alloc | apply pw_below_drewN | apply below_drew1) | exact Below.refl _ _))) H5_0L.out E12.out).mono ?_); rintro e w12 ⟨rfl, hd⟩; have D_ : Below w11.heap.size w11 w12 := below_step (by repeat (first | (with_reducible first | exact Below.refl _ _ | apply below_alloc | apply pw_below_drewN | apply below_drew1) | exact Below.refl _ _)) (Go.Proofs.YtaiefdhenikiiaaA.below_drawn hd); replace HS0 := Aside0.mk (show w12.heap[w.heap.size]? = some (.cells #[.int .i64 a0_0, .int .i64 a0_1, .slice A0_2 l0_2.length c0_2] 32 (0, 0)) from blk_below HS0.out D_); replace HS1 := Aside0.mk (show SrAt w12 (w4.heap.size) (y4_0_0) (y4_0_1) (.slice A_H4_0_2 z9.length c_H4_0_2) from blk_below HS1.out D_); replace H2_0_2 := Aside0.mk (H2_0_2.out.below D_); replace H3_0 := Aside0.mk (H3_0.out.below D_); replace H5_0 := Aside0.mk (H5_0.out.below D_); replace H7_0_2 := Aside0.mk (H7_0_2.out.below D_); have B12 := Aside0.mk (below_step B11.out D_); replace LB0 := Aside0.mk (show w.heap.size < w12.heap.size from blk_lt HS0.out); replace LB1 := Aside0.mk (show w4.heap.size < w12.heap.size from blk_lt HS1.out); clear D_ hd; have PS_H2_0_2 := Aside0.mk (show hi_H2_0_2 ≤ w12.heap.size from And.right H2_0_2.out); have PS_H3_0 := Aside0.mk (show hi_H3_0 ≤ w12.heap.size from And.right H3_0.out); have PS_H7_0_2 := Aside0.mk (show hi_H7_0_2 ≤ w12.heap.size from And.right H7_0_2.out); clear z11_0_0 z11_0_1 z11_0_2 z11_1_0 z11_1_1 z11_1_2; have z12_0_0 : w12.cell? ⟨w.heap.size, 0, none⟩ = some (.int .i64 a0_0) := blk_cell HS0.out 0; have z12_0_1 : w12.cell? ⟨w.heap.size, 1, none⟩ = some (.int .i64 a0_1) := blk_cell HS0.out 1; have z12_0_2 : w12.cell? ⟨w.heap.size, 2, none⟩ = some (.slice A0_2 l0_2.length c0_2) := blk_cell HS0.out 2; have z12_1_0 : w12.cell? ⟨w4.heap.size, 0, none⟩ = some (.int .i64 y4_0_0) := SrAt.c0 HS1.out; have z12_1_1 : w12.cell? ⟨w4.heap.size, 1, none⟩ = some (.int .i64 y4_0_1) := SrAt.c1 HS1.out; have z12_1_2 : w12.cell? ⟨w4.heap.size, 2, none⟩ = some (.slice A_H4_0_2 z9.length c_H4_0_2) := SrAt.c2 HS1.out)
    go_wp2_with (go_at_call 30; (with_reducible refine (laws_toSeries.calls k a0_0 a0_1 A0_2 c0_2 l0_2 y13_0_0 y13_0_1 y13_0_2 _ (Kd.C_below HR0_2.out (by repeat (first | (with_reducible first | exact B12.out | apply below_alloc | apply pw_below_drewN | apply below_drew1) | exact B12.out))) HC0_2.out E13.out).mono ?_); rintro e w13 ⟨v_H13_0_2, rfl, ho_H13_0_2, hb⟩; have D_ : Below w12.heap.size w12 w13 := below_step (by repeat (first | (with_reducible first | exact Below.refl _ _ | apply below_alloc | apply pw_below_drewN | apply below_drew1) | exact Below.refl _ _)) hb; replace HS0 := Aside0.mk (show w13.heap[w.heap.size]? = some (.cells #[.int .i64 a0_0, .int .i64 a0_1, .slice A0_2 l0_2.length c0_2] 32 (0, 0)) from blk_below HS0.out D_); replace HS1 := Aside0.mk (show SrAt w13 (w4.heap.size) (y4_0_0) (y4_0_1) (.slice A_H4_0_2 z9.length c_H4_0_2) from blk_below HS1.out D_); replace H2_0_2 := Aside0.mk (H2_0_2.out.below D_); replace H3_0 := Aside0.mk (H3_0.out.below D_); replace H5_0 := Aside0.mk (H5_0.out.below D_); replace H7_0_2 := Aside0.mk (H7_0_2.out.below D_); have B13 := Aside0.mk (below_step B12.out D_); obtain ⟨lo_H13_0_2, hi_H13_0_2, hlo_, hhi_, hx_⟩ : ∃ lo hi, w12.heap.size ≤ lo ∧ lo ≤ hi ∧ Go.Proofs.YtaiefdhenikiiaaA.AtR k79 79 lo hi w13 v_H13_0_2 y13_0_2 := ⟨_, _, by simp, by have := hb.size; simpa using this, Go.Proofs.YtaiefdhenikiiaaA.AtR.of ho_H13_0_2⟩; clear ho_H13_0_2; obtain ⟨A_H13_0_2, c_H13_0_2, rfl, l_⟩ := hx_.form; have H13_0_2L := Aside0.mk l_; have LO_H13_0_2 := Aside0.mk (show w.heap.size ≤ lo_H13_0_2 from by have := B12.out.size; omega); have OR_H13_0_2 := Aside0.mk (show lo_H13_0_2 ≤ hi_H13_0_2 ∧ hi_H2_0_2 ≤ lo_H13_0_2 ∧ hi_H3_0 ≤ lo_H13_0_2 ∧ hi_H7_0_2 ≤ lo_H13_0_2 ∧ w.heap.size < lo_H13_0_2 ∧ w4.heap.size < lo_H13_0_2 from ⟨hhi_, by have := PS_H2_0_2.out; omega, by have := PS_H3_0.out; omega, by have := PS_H7_0_2.out; omega, by have := LB0.out; omega, by have := LB1.out; omega⟩); have H13_0_2 := Aside0.mk hx_; clear hx_ l_ hlo_ hhi_; replace LB0 := Aside0.mk (show w.heap.size < w13.heap.size from blk_lt HS0.out); replace LB1 := Aside0.mk (show w4.heap.size < w13.heap.size from blk_lt HS1.out); clear D_ hb; have PS_H2_0_2 := Aside0.mk (show hi_H2_0_2 ≤ w13.heap.size from And.right H2_0_2.out); have PS_H3_0 := Aside0.mk (show hi_H3_0 ≤ w13.heap.size from And.right H3_0.out); have PS_H7_0_2 := Aside0.mk (show hi_H7_0_2 ≤ w13.heap.size from And.right H7_0_2.out); have PS_H13_0_2 := Aside0.mk (show hi_H13_0_2 ≤ w13.heap.size from And.right H13_0_2.out); clear z12_0_0 z12_0_1 z12_0_2 z12_1_0 z12_1_1 z12_1_2; have z13_0_0 : w13.cell? ⟨w.heap.size, 0, none⟩ = some (.int .i64 a0_0) := blk_cell HS0.out 0; have z13_0_1 : w13.cell? ⟨w.heap.size, 1, none⟩ = some (.int .i64 a0_1) := blk_cell HS0.out 1; have z13_0_2 : w13.cell? ⟨w.heap.size, 2, none⟩ = some (.slice A0_2 l0_2.length c0_2) := blk_cell HS0.out 2; have z13_1_0 : w13.cell? ⟨w4.heap.size, 0, none⟩ = some (.int .i64 y4_0_0) := SrAt.c0 HS1.out; have z13_1_1 : w13.cell? ⟨w4.heap.size, 1, none⟩ = some (.int .i64 y4_0_1) := SrAt.c1 HS1.out; have z13_1_2 : w13.cell? ⟨w4.heap.size, 2, none⟩ = some (.slice A_H4_0_2 z9.length c_H4_0_2) := SrAt.c2 HS1.out)
    go_wp2_with (go_at_call 31; (with_reducible refine (impl_DegreesOf.calls k y13_0_0 y13_0_1 _ _ y13_0_2 y14_0 y14_1 _ (Kd.C_below H13_0_2.out.C (by repeat (first | (with_reducible first | exact Below.refl _ _ | apply below_alloc | apply pw_below_drewN | apply below_drew1) | exact Below.refl _ _))) H13_0_2L.out E14.out).mono ?_); rintro e w14 ⟨v_H14_0, rfl, ho_H14_0, hb⟩; have D_ : Below w13.heap.size w13 w14 := below_step (by repeat (first | (with_reducible first | exact Below.refl _ _ | apply below_alloc | apply pw_below_drewN | apply below_drew1) | exact Below.refl _ _)) hb; replace HS0 := Aside0.mk (show w14.heap[w.heap.size]? = some (.cells #[.int .i64 a0_0, .int .i64 a0_1, .slice A0_2 l0_2.length c0_2] 32 (0, 0)) from blk_below HS0.out D_); replace HS1 := Aside0.mk (show SrAt w14 (w4.heap.size) (y4_0_0) (y4_0_1) (.slice A_H4_0_2 z9.length c_H4_0_2) from blk_below HS1.out D_); replace H2_0_2 := Aside0.mk (H2_0_2.out.below D_); replace H3_0 := Aside0.mk (H3_0.out.below D_); replace H5_0 := Aside0.mk (H5_0.out.below D_); replace H7_0_2 := Aside0.mk (H7_0_2.out.below D_); replace H13_0_2 := Aside0.mk (H13_0_2.out.below D_); have B14 := Aside0.mk (below_step B13.out D_); obtain ⟨lo_H14_0, hi_H14_0, hlo_, hhi_, hx_⟩ : ∃ lo hi, w13.heap.size ≤ lo ∧ lo ≤ hi ∧ Go.Proofs.YtaiefdhenikiiaaA.AtS (Kd.slice 2 (Kd.int .i64)) 50 lo hi w14 v_H14_0 y14_0 := ⟨_, _, by simp, by have := hb.size; simpa using this, Go.Proofs.YtaiefdhenikiiaaA.AtS.of ho_H14_0⟩; clear ho_H14_0; obtain ⟨A_H14_0, c_H14_0, rfl, l_⟩ := hx_.form; have H14_0L := Aside0.mk l_; have LO_H14_0 := Aside0.mk (show w.heap.size ≤ lo_H14_0 from by have := B13.out.size; omega); have OR_H14_0 := Aside0.mk (show lo_H14_0 ≤ hi_H14_0 ∧ hi_H2_0_2 ≤ lo_H14_0 ∧ hi_H3_0 ≤ lo_H14_0 ∧ hi_H7_0_2 ≤ lo_H14_0 ∧ hi_H13_0_2 ≤ lo_H14_0 ∧ w.heap.size < lo_H14_0 ∧ w4.heap.size < lo_H14_0 from ⟨hhi_, by have := PS_H2_0_2.out; omega, by have := PS_H3_0.out; omega, by have := PS_H7_0_2.out; omega, by have := PS_H13_0_2.out; omega, by have := LB0.out; omega, by have := LB1.out; omega⟩); have H14_0 := Aside0.mk hx_; clear hx_ l_ hlo_ hhi_; replace LB0 := Aside0.mk (show w.heap.size < w14.heap.size from blk_lt HS0.out); replace LB1 := Aside0.mk (show w4.heap.size < w14.heap.size from blk_lt HS1.out); clear D_ hb; have PS_H2_0_2 := Aside0.mk (show hi_H2_0_2 ≤ w14.heap.size from And.right H2_0_2.out); have PS_H3_0 := Aside0.mk (show hi_H3_0 ≤ w14.heap.size from And.right H3_0.out); have PS_H7_0_2 := Aside0.mk (show hi_H7_0_2 ≤ w14.heap.size from And.right H7_0_2.out); have PS_H13_0_2 := Aside0.mk (show hi_H13_0_2 ≤ w14.heap.size from And.right H13_0_2.out); have PS_H14_0 := Aside0.mk (show hi_H14_0 ≤ w14.heap.size from And.right H14_0.out); clear z13_0_0 z13_0_1 z13_0_2 z13_1_0 z13_1_1 z13_1_2; have z14_0_0 : w14.cell? ⟨w.heap.size, 0, none⟩ = some (.int .i64 a0_0) := blk_cell HS0.out 0; have z14_0_1 : w14.cell? ⟨w.heap.size, 1, none⟩ = some (.int .i64 a0_1) := blk_cell HS0.out 1; have z14_0_2 : w14.cell? ⟨w.heap.size, 2, none⟩ = some (.slice A0_2 l0_2.length c0_2) := blk_cell HS0.out 2; have z14_1_0 : w14.cell? ⟨w4.heap.size, 0, none⟩ = some (.int .i64 y4_0_0) := SrAt.c0 HS1.out; have z14_1_1 : w14.cell? ⟨w4.heap.size, 1, none⟩ = some (.int .i64 y4_0_1) := SrAt.c1 HS1.out; have z14_1_2 : w14.cell? ⟨w4.heap.size, 2, none⟩ = some (.slice A_H4_0_2 z9.length c_H4_0_2) := SrAt.c2 HS1.out)
    go_wp2_with (go_at_call 32; (with_reducible refine (laws_eqInt64SS.calls k _ _ y14_0 _ _ y3_0 true _ (Kd.C_below H14_0.out.C (by repeat (first | (with_reducible first | exact Below.refl _ _ | apply below_alloc | apply pw_below_drewN | apply below_drew1) | exact Below.refl _ _))) H14_0L.out (Kd.C_below H3_0.out.C (by repeat (first | (with_reducible first | exact Below.refl _ _ | apply below_alloc | apply pw_below_drewN | apply below_drew1) | exact Below.refl _ _))) H3_0L.out E15.out).mono ?_); rintro e w15 ⟨rfl, hd⟩; have D_ : Below w14.heap.size w14 w15 := below_step (by repeat (first | (with_reducible first | exact Below.refl _ _ | apply below_alloc | apply pw_below_drewN | apply below_drew1) | exact Below.refl _ _)) (Go.Proofs.YtaiefdhenikiiaaA.below_drawn hd); replace HS0 := Aside0.mk (show w15.heap[w.heap.size]? = some (.cells #[.int .i64 a0_0, .int .i64 a0_1, .slice A0_2 l0_2.length c0_2] 32 (0, 0)) from blk_below HS0.out D_); replace HS1 := Aside0.mk (show SrAt w15 (w4.heap.size) (y4_0_0) (y4_0_1) (.slice A_H4_0_2 z9.length c_H4_0_2) from blk_below HS1.out D_); replace H2_0_2 := Aside0.mk (H2_0_2.out.below D_); replace H3_0 := Aside0.mk (H3_0.out.below D_); replace H5_0 := Aside0.mk (H5_0.out.below D_); replace H7_0_2 := Aside0.mk (H7_0_2.out.below D_); replace H13_0_2 := Aside0.mk (H13_0_2.out.below D_); replace H14_0 := Aside0.mk (H14_0.out.below D_); have B15 := Aside0.mk (below_step B14.out D_); replace LB0 := Aside0.mk (show w.heap.size < w15.heap.size from blk_lt HS0.out); replace LB1 := Aside0.mk (show w4.heap.size < w15.heap.size from blk_lt HS1.out); clear D_ hd; have PS_H2_0_2 := Aside0.mk (show hi_H2_0_2 ≤ w15.heap.size from And.right H2_0_2.out); have PS_H3_0 := Aside0.mk (show hi_H3_0 ≤ w15.heap.size from And.right H3_0.out); have PS_H7_0_2 := Aside0.mk (show hi_H7_0_2 ≤ w15.heap.size from And.right H7_0_2.out); have PS_H13_0_2 := Aside0.mk (show hi_H13_0_2 ≤ w15.heap.size from And.right H13_0_2.out); have PS_H14_0 := Aside0.mk (show hi_H14_0 ≤ w15.heap.size from And.right H14_0.out); clear z14_0_0 z14_0_1 z14_0_2 z14_1_0 z14_1_1 z14_1_2; have z15_0_0 : w15.cell? ⟨w.heap.size, 0, none⟩ = some (.int .i64 a0_0) := blk_cell HS0.out 0; have z15_0_1 : w15.cell? ⟨w.heap.size, 1, none⟩ = some (.int .i64 a0_1) := blk_cell HS0.out 1; have z15_0_2 : w15.cell? ⟨w.heap.size, 2, none⟩ = some (.slice A0_2 l0_2.length c0_2) := blk_cell HS0.out 2; have z15_1_0 : w15.cell? ⟨w4.heap.size, 0, none⟩ = some (.int .i64 y4_0_0) := SrAt.c0 HS1.out; have z15_1_1 : w15.cell? ⟨w4.heap.size, 1, none⟩ = some (.int .i64 y4_0_1) := SrAt.c1 HS1.out; have z15_1_2 : w15.cell? ⟨w4.heap.size, 2, none⟩ = some (.slice A_H4_0_2 z9.length c_H4_0_2) := SrAt.c2 HS1.out)
    go_wp2_with (go_at_call 36; (with_reducible refine (laws_heldInt64SS.calls k _ _ z11 1 y16_0 _ (Kd.C_below H5_0.out.C (by repeat (first | (with_reducible first | exact Below.refl _ _ | apply below_alloc | apply pw_below_drewN | apply below_drew1) | exact Below.refl _ _))) H5_0L.out E16.out).mono ?_); rintro e w16 ⟨rfl, hd⟩; have D_ : Below w15.heap.size w15 w16 := below_step (by repeat (first | (with_reducible first | exact Below.refl _ _ | apply below_alloc | apply pw_below_drewN | apply below_drew1) | exact Below.refl _ _)) (Go.Proofs.YtaiefdhenikiiaaA.below_drawn hd); replace HS0 := Aside0.mk (show w16.heap[w.heap.size]? = some (.cells #[.int .i64 a0_0, .int .i64 a0_1, .slice A0_2 l0_2.length c0_2] 32 (0, 0)) from blk_below HS0.out D_); replace HS1 := Aside0.mk (show SrAt w16 (w4.heap.size) (y4_0_0) (y4_0_1) (.slice A_H4_0_2 z9.length c_H4_0_2) from blk_below HS1.out D_); replace H2_0_2 := Aside0.mk (H2_0_2.out.below D_); replace H3_0 := Aside0.mk (H3_0.out.below D_); replace H5_0 := Aside0.mk (H5_0.out.below D_); replace H7_0_2 := Aside0.mk (H7_0_2.out.below D_); replace H13_0_2 := Aside0.mk (H13_0_2.out.below D_); replace H14_0 := Aside0.mk (H14_0.out.below D_); have B16 := Aside0.mk (below_step B15.out D_); replace LB0 := Aside0.mk (show w.heap.size < w16.heap.size from blk_lt HS0.out); replace LB1 := Aside0.mk (show w4.heap.size < w16.heap.size from blk_lt HS1.out); clear D_ hd; have PS_H2_0_2 := Aside0.mk (show hi_H2_0_2 ≤ w16.heap.size from And.right H2_0_2.out); have PS_H3_0 := Aside0.mk (show hi_H3_0 ≤ w16.heap.size from And.right H3_0.out); have PS_H7_0_2 := Aside0.mk (show hi_H7_0_2 ≤ w16.heap.size from And.right H7_0_2.out); have PS_H13_0_2 := Aside0.mk (show hi_H13_0_2 ≤ w16.heap.size from And.right H13_0_2.out); have PS_H14_0 := Aside0.mk (show hi_H14_0 ≤ w16.heap.size from And.right H14_0.out); clear z15_0_0 z15_0_1 z15_0_2 z15_1_0 z15_1_1 z15_1_2; have z16_0_0 : w16.cell? ⟨w.heap.size, 0, none⟩ = some (.int .i64 a0_0) := blk_cell HS0.out 0; have z16_0_1 : w16.cell? ⟨w.heap.size, 1, none⟩ = some (.int .i64 a0_1) := blk_cell HS0.out 1; have z16_0_2 : w16.cell? ⟨w.heap.size, 2, none⟩ = some (.slice A0_2 l0_2.length c0_2) := blk_cell HS0.out 2; have z16_1_0 : w16.cell? ⟨w4.heap.size, 0, none⟩ = some (.int .i64 y4_0_0) := SrAt.c0 HS1.out; have z16_1_1 : w16.cell? ⟨w4.heap.size, 1, none⟩ = some (.int .i64 y4_0_1) := SrAt.c1 HS1.out; have z16_1_2 : w16.cell? ⟨w4.heap.size, 2, none⟩ = some (.slice A_H4_0_2 z9.length c_H4_0_2) := SrAt.c2 HS1.out)
    go_ret
    exact ⟨rfl, B16.out⟩
end Go.Proofs.Ytaiefdhenikiiaa.Base
namespace Go.Proofs.Ytaiefdhenikiiaa.PFnExactDegreesOf
open Go.RowKit Go.Proofs.YtaiefdhenikiiaaW.PrintWords Go.Proofs.YtaiefdhenikiiaaO Go.Proofs.Ytaiefdhenikiiaa.Base
set_option linter.unusedVariables false
/-- What is known of such a value that came in. -/
def ok73 (x : S73) : Prop := (Lit.int .i64 x.f0).wf = true ∧ (Lit.int .i64 x.f1).wf = true
theorem opens73 : Opens Try.prog 73 k73 ok73 := opens_iso (fun x : S73 => (x.f0, x.f1)) (fun p => ⟨p.1, p.2⟩) (fun _ => rfl) (opens_two Try.underlying73 rfl rfl (by kernel_rfl) (opens_int Try.underlying2 (by kernel_rfl)) (opens_int Try.underlying2 (by kernel_rfl)))
/-- What is known of such a value that came in. -/
def ok75 (x : S75) : Prop := x.f0.size ≤ 9223372036854775807 ∧ ok73 x.f1
theorem opens75 : Opens Try.prog 75 k75 ok75 := opens_iso (fun x : S75 => (x.f0, x.f1)) (fun p => ⟨p.1, p.2⟩) (fun _ => rfl) (opens_two Try.underlying75 rfl rfl (by kernel_rfl) (opens_string Try.underlying9 (by kernel_rfl)) opens73)
structure S32 where
  f0 : Int
  f1 : Int
  f2 : (List S75)
def k32 : Kd S32 := Kd.iso (Kd.pair (Kd.int .i64) (Kd.pair (Kd.int .i64) (Kd.slice 75 k75))) (fun x : S32 => (x.f0, x.f1, x.f2))
/-- What is known of such a value that came in. -/
def ok32 (x : S32) : Prop := (Lit.int .i64 x.f0).wf = true ∧ (Lit.int .i64 x.f1).wf = true ∧ (x.f2.length ≤ 9223372036854775807 ∧ ∀ a_ ∈ x.f2, ok75 a_)
theorem opens32 : Opens Try.prog 32 k32 ok32 := opens_iso (fun x : S32 => (x.f0, x.f1, x.f2)) (fun p => ⟨p.1, p.2.1, p.2.2⟩) (fun _ => rfl) (opens_three Try.underlying32 rfl rfl rfl (by kernel_rfl) (opens_int Try.underlying2 (by kernel_rfl)) (opens_int Try.underlying2 (by kernel_rfl)) (opens_slice Try.underlying22 (by kernel_rfl) opens75))
def laws_FnExactDegreesOf.Pure : Prop := ∀ (s0 : S32), ok32 s0 → ∃ k, laws_FnExactDegreesOf.f k s0.f0 s0.f1 s0.f2 = some true
end Go.Proofs.Ytaiefdhenikiiaa.PFnExactDegreesOf
namespace Go.Proofs.Ytaiefdhenikiiaa.Pure
open Go.RowKit Go.Proofs.Ytaiefdhenikiiaa.Base Go.Proofs.Ytaiefdhenikiiaa.PFnExactDegreesOf Go.Proofs.YtaiefdhenikiiaaW.PrintWords Go.Proofs.YtaiefdhenikiiaaW.PrintLast
set_option linter.unusedSimpArgs false
set_option linter.unusedVariables false
theorem heldI_loop (n : Nat) (k0 : Int) (h0 : 0 ≤ k0) (h1 : k0 + n ≤ 1152921504606846976) (m : Nat) : ∀ j : Nat, j + m = n →
    Ev (fun q => laws_heldInt64S.l0 q (nums k0 n) (k0 + j) (j : Int)) (k0 + n) := by
  induction m with
  | zero =>
    intro j hj
    refine Ev.step (f := fun _ => some (k0 + n)) (fun q => ?_) (Ev.now _)
    simp only [laws_heldInt64S.l0]
    rw [if_neg (by rw [nums_len]; omega), show j = n by omega]
  | succ m ih =>
    intro j hj
    have hlt : j < (nums k0 n).length := by rw [nums_len]; omega
    refine Ev.step (fun q => ?_) (ih (j + 1) (by omega))
    simp only [laws_heldInt64S.l0]
    have e3 : rd (nums k0 n) (j : Int) = k0 + j := by simp only [rd, Int.toNat_natCast, List.getD_eq_getElem?_getD, List.getElem?_eq_getElem hlt, Option.getD_some]; exact nums_at k0 n j hlt
    rw [if_pos (by rw [nums_len]; omega), if_pos (by omega), e3, if_pos rfl, w64r (x := k0 + j + 1) (by omega) (by omega), w64r (x := (j : Int) + 1) (by omega) (by omega), show k0 + (j : Int) + 1 = k0 + ((j + 1 : Nat) : Int) by omega]; rfl
theorem heldI (n : Nat) (k0 : Int) (h0 : 0 ≤ k0) (h1 : k0 + n ≤ 1152921504606846976) : Ev (fun q => laws_heldInt64S.f q (nums k0 n) k0) (k0 + n) := by
  have := heldI_loop n k0 h0 h1 n 0 (by omega)
  simpa [laws_heldInt64S.f] using this
theorem heldSS_loop (l : List (List Int)) (k0 : Int) (h0 : 0 ≤ k0) (h1 : k0 + total l ≤ 1152921504606846976) (hl : l.length ≤ 1048576) (m : Nat) : ∀ j : Nat, j + m = l.length →
    Ev (fun q => laws_heldInt64SS.l0 q (numsS k0 l) (k0 + total (l.take j)) (j : Int)) (k0 + total l) := by
  induction m with
  | zero =>
    intro j hj
    refine Ev.step (f := fun _ => some (k0 + total l)) (fun q => ?_) (Ev.now _)
    simp only [laws_heldInt64SS.l0]
    rw [if_neg (by rw [numsS_len]; omega), show j = l.length by omega, List.take_length]
  | succ m ih =>
    intro j hj
    have hlt : j < l.length := by omega
    have hlt2 : j < (numsS k0 l).length := by rw [numsS_len]; omega
    have ht := total_take l j hlt
    have hle := total_take_le l (j + 1)
    have e3 : rd_L7 (numsS k0 l) (j : Int) = nums (k0 + total (l.take j)) l[j].length := by
      simp only [rd_L7, Int.toNat_natCast, List.getD_eq_getElem?_getD, List.getElem?_eq_getElem hlt2, Option.getD_some]; exact numsS_at k0 l j hlt2 hlt
    refine Ev.step (f := fun q => (laws_heldInt64S.f q (nums (k0 + total (l.take j)) l[j].length) (k0 + total (l.take j))).bind fun p => if p < 0 then some (-1) else laws_heldInt64SS.l0 q (numsS k0 l) p ((j + 1 : Nat) : Int)) (fun q => ?_) (Ev.bind (heldI l[j].length (k0 + total (l.take j)) (by omega) (by omega)) ?_)
    · simp only [laws_heldInt64SS.l0]
      rw [if_pos (by rw [numsS_len]; omega), if_pos (by omega), e3, w64r (x := (j : Int) + 1) (by omega) (by omega)]; rfl
    · refine Ev.congr (fun _ => if_neg (by omega)) ?_
      rw [show k0 + (total (l.take j) : Int) + (l[j].length : Int) = k0 + (total (l.take (j + 1)) : Int) by omega]
      exact ih (j + 1) (by omega)
theorem heldSS (l : List (List Int)) (k0 : Int) (h0 : 0 ≤ k0) (h1 : k0 + total l ≤ 1152921504606846976) (hl : l.length ≤ 1048576) : Ev (fun q => laws_heldInt64SS.f q (numsS k0 l) k0) (k0 + total l) := by
  have := heldSS_loop l k0 h0 h1 hl l.length 0 (by omega)
  simpa [total, laws_heldInt64SS.f] using this
theorem FnExactDegreesOf : laws_FnExactDegreesOf.Pure := by
  intro s0 hok
  obtain ⟨D, N, l⟩ := s0
  obtain ⟨_, _, hn, hwo⟩ := hok
  simp only at hn hwo ⊢
  obtain ⟨v, hs, _, hsz⟩ := szS_is D N l hn (fun x hx => (hwo x hx).1) 1048576 (by omega) (by omega)
  unfold laws_FnExactDegreesOf.f
  refine Ev.rounds (Ev.bind hs ?_)
  by_cases c : v < 0
  · simp only [c, if_true]; exact Ev.now _
  · simp only [c, if_false]
    have hsm := hsz (by omega)
    have hcp := toSer_is D N l (by omega)
    have hX := arg_small l hsm
    obtain ⟨X, hXe⟩ : ∃ X, X = l.map toX := ⟨_, rfl⟩
    rw [← hXe] at hcp hX
    have hXl := hX.1
    have hI := deg_impl D N X hX
    have hS := deg_spec D N X hX
    obtain ⟨hl1, hl2⟩ := deg_len D N X hXl
    obtain ⟨⟨R, C⟩, hR⟩ : ∃ q, q = degR D N X := ⟨_, rfl⟩
    rw [← hR] at hI hS hl1 hl2
    dsimp only at hl1 hl2
    have hsame := eqSer_id D N X (by omega)
    obtain ⟨X', hmX, _⟩ := marksSer_id D N X (by omega)
    have heq := same_rows R hl1 (fun r h => by have := hl2 r h; omega)
    have htot := total_le 3 R hl2
    have hmR := markSS R 1 (by omega) (by omega) hl1
    have hhR := heldSS R 1 (by omega) (by omega) hl1
    refine Ev.bind hcp (Ev.bind hS (Ev.bind hcp (Ev.bind hI ?_)))
    dsimp only
    refine Ev.congr (fun _ => if_pos rfl) ?_
    refine Ev.bind heq ?_
    refine Ev.congr (fun _ => if_pos rfl) ?_
    refine Ev.bind hcp (Ev.bind hsame ?_)
    refine Ev.congr (fun _ => if_pos rfl) ?_
    refine Ev.bind hmX ?_
    dsimp only
    refine Ev.congr (fun _ => if_pos (by omega)) ?_
    refine Ev.bind heq ?_
    refine Ev.congr (fun _ => if_pos rfl) ?_
    refine Ev.bind hmR ?_
    dsimp only
    refine Ev.congr (fun _ => if_pos (by omega)) ?_
    refine Ev.bind hhR ?_
    refine Ev.congr (fun _ => if_pos ⟨by omega, rfl⟩) ?_
    refine Ev.bind hcp (Ev.bind hI ?_)
    dsimp only
    refine Ev.congr (fun _ => if_pos rfl) ?_
    refine Ev.bind heq ?_
    refine Ev.congr (fun _ => if_pos rfl) ?_
    refine Ev.bind hhR ?_
    refine Ev.congr (fun _ => if_pos ⟨by omega, rfl⟩) ?_
    exact Ev.now _
end Go.Proofs.Ytaiefdhenikiiaa.Pure
