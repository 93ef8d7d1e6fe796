/- FnExactDoubleArea: for all arguments, the program's DoubleArea answers what the reference's answers, and turns nothing. No condition. -/
import Derived.Test.YtocldhojbnegjaaQFnExactDoubleAreay
namespace Go.Proofs.Ytocldhojbnegjaa.Pure
open Go.RowKit Go.Proofs.Ytocldhojbnegjaa.PFnExactDoubleArea Go.Proofs.YtocldhojbnegjaaW.PrintWords Go.Proofs.YtocldhojbnegjaaW.PrintLast
set_option linter.unusedSimpArgs false
set_option linter.unusedVariables false

/-! slices of slices of numbers: how long, copied, compared -/
theorem w64r {x : Int} (h0 : -9223372036854775808 ≤ x) (h1 : x ≤ 9223372036854775807) : wrap64 x = x := by unfold wrap64; omega
def total (l : List (List Int)) : Nat := (l.map List.length).sum
theorem szRow (l : List Int) (a : Int) (hl : l.length ≤ 9223372036854775807) (ha : 0 ≤ a) (ha1 : a ≤ 1048576) : laws_szInt64S.f l a = some (if a - l.length < 0 then -1 else a - l.length) := by
  unfold laws_szInt64S.f
  rw [w64r (by omega) (by omega)]
  split <;> rfl
theorem szRows (l : List (List Int)) (hl : l.length ≤ 9223372036854775807) (hr : ∀ r ∈ l, r.length ≤ 9223372036854775807) (m : Nat) : ∀ (j : Nat) (a : Int), j + m = l.length → 0 ≤ a → a ≤ 1048576 →
    ∃ r : Int, Ev (fun k => laws_szInt64SS.l0 k l a (j : Int)) r ∧ (r < 0 ∨ r = a - total (l.drop j)) := by
  induction m with
  | zero =>
    intro j a hj ha ha1
    refine ⟨a, Ev.step (f := fun _ => some a) (fun k => ?_) (Ev.now _), .inr ?_⟩
    · simp only [laws_szInt64SS.l0]; rw [if_neg (by omega)]
    · rw [List.drop_eq_nil_of_le (by omega)]; simp [total]
  | succ m ih =>
    intro j a hj ha ha1
    have hlt : j < l.length := by omega
    have e3 : rd_L1 l (j : Int) = l[j] := by simp [rd_L1, List.getElem?_eq_getElem hlt]
    have hrow := szRow l[j] a (hr _ (List.getElem_mem hlt)) ha ha1
    have hd : total (l.drop j) = l[j].length + total (l.drop (j + 1)) := by
      rw [List.drop_eq_getElem_cons hlt]; simp only [total, List.map_cons, List.sum_cons]
    by_cases c : a - l[j].length < 0
    · refine ⟨-1, Ev.step (f := fun _ => some (-1)) (fun k => ?_) (Ev.now _), .inl (by omega)⟩
      simp only [laws_szInt64SS.l0]
      rw [if_pos (by omega), if_pos (by omega), e3, hrow, if_pos c]
      simp
    · obtain ⟨r, h1, h2⟩ := ih (j + 1) (a - l[j].length) (by omega) (by omega) (by omega)
      refine ⟨r, Ev.step (fun k => ?_) h1, ?_⟩
      · simp only [laws_szInt64SS.l0]
        rw [if_pos (by omega), if_pos (by omega), e3, hrow, if_neg c]
        simp only [Option.bind_some]
        rw [if_neg c, w64r (x := (j : Int) + 1) (by omega) (by omega)]
        rfl
      · rcases h2 with h2 | h2
        · exact .inl h2
        · right; rw [h2, hd]; omega
/-- The size check: it ends; and where it does not turn the input away the rows are short. -/
theorem sz_both (l : List (List Int)) (hl : l.length ≤ 9223372036854775807) (hr : ∀ r ∈ l, r.length ≤ 9223372036854775807) : ∃ r : Int, Ev (fun k => laws_szInt64SS.f k l 1048576) r ∧ (r < 0 ∨ l.length + total l ≤ 1048576) := by
  by_cases c : wrap64 (1048576 - (l.length : Int)) < 0
  · exact ⟨-1, Ev.congr (g := fun k => laws_szInt64SS.f k l 1048576) (f := fun _ => some (-1)) (fun k => by unfold laws_szInt64SS.f; rw [if_pos c]) (Ev.now _), .inl (by omega)⟩
  · have e : wrap64 (1048576 - (l.length : Int)) = 1048576 - l.length := w64r (by omega) (by omega)
    rw [e] at c
    obtain ⟨r, h1, h2⟩ := szRows l hl hr l.length 0 (1048576 - l.length) (by omega) (by omega) (by omega)
    refine ⟨r, Ev.congr (fun k => ?_) h1, ?_⟩
    · show laws_szInt64SS.f k l 1048576 = _
      unfold laws_szInt64SS.f; rw [e, if_neg c]; rfl
    · rcases h2 with h2 | h2
      · exact .inl h2
      · rw [List.drop_zero] at h2
        by_cases h : r < 0
        · exact .inl h
        · right; omega
theorem total_mem {l : List (List Int)} {r : List Int} (h : r ∈ l) : r.length ≤ total l := by
  induction l with
  | nil => simp at h
  | cons a l ih =>
    simp only [total, List.map_cons, List.sum_cons]
    rcases List.mem_cons.1 h with rfl | h
    · omega
    · have := ih h; simp only [total] at this; omega
theorem copyRow (l : List Int) (hl : l.length ≤ 1048576) (m : Nat) : ∀ j : Nat, j + m = l.length → Ev (fun k => laws_toInt64S.l0 k l (l.take j ++ List.replicate m 0) (j : Int)) l := by
  induction m with
  | zero =>
    intro j hj
    refine Ev.step (f := fun _ => some l) (fun k => ?_) (Ev.now _)
    simp only [laws_toInt64S.l0]
    rw [if_neg (by omega), List.take_of_length_le (by omega)]; simp
  | succ m ih =>
    intro j hj
    have hlt : j < l.length := by omega
    refine Ev.step (fun k => ?_) (ih (j + 1) (by omega))
    simp only [laws_toInt64S.l0]
    have hlen : (l.take j ++ List.replicate (m + 1) 0).length = l.length := by simp; omega
    rw [if_pos (by omega), if_pos (by omega), if_pos (by omega), w64r (x := (j : Int) + 1) (by omega) (by omega)]
    have e : (l.take j ++ List.replicate (m + 1) 0).set (j : Int).toNat (rd l (j : Int)) = l.take (j + 1) ++ List.replicate m 0 := by
      rw [Int.toNat_natCast, List.set_append, if_neg (by simp; omega)]
      simp only [List.length_take, Nat.min_eq_left (Nat.le_of_lt hlt), Nat.sub_self, List.replicate_succ, List.set_cons_zero]
      have e5 : rd l (j : Int) = l[j] := by simp [rd, List.getElem?_eq_getElem hlt]
      rw [e5, List.take_succ_eq_append_getElem hlt, List.append_assoc]; rfl
    rw [e]; rfl
theorem copy_row (l : List Int) (hl : l.length ≤ 1048576) : Ev (fun k => laws_toInt64S.f k l) l := by
  refine Ev.congr (fun k => ?_) (copyRow l hl l.length 0 (by omega))
  unfold laws_toInt64S.f
  rw [if_pos (by omega), if_pos (by omega)]
  simp
theorem copyRows (l : List (List Int)) (hl : l.length ≤ 1048576) (hr : ∀ r ∈ l, r.length ≤ 1048576) (m : Nat) : ∀ j : Nat, j + m = l.length → Ev (fun k => laws_toInt64SS.l0 k l (l.take j ++ List.replicate m []) (j : Int)) l := by
  induction m with
  | zero =>
    intro j hj
    refine Ev.step (f := fun _ => some l) (fun k => ?_) (Ev.now _)
    simp only [laws_toInt64SS.l0]
    rw [if_neg (by omega), List.take_of_length_le (by omega)]; simp
  | succ m ih =>
    intro j hj
    have hlt : j < l.length := by omega
    have e3 : rd_L1 l (j : Int) = l[j] := by simp [rd_L1, List.getElem?_eq_getElem hlt]
    refine Ev.step (f := fun k => (laws_toInt64S.f k l[j]).bind fun t => laws_toInt64SS.l0 k l (l.take j ++ t :: List.replicate m []) ((j + 1 : Nat) : Int)) (fun k => ?_) (Ev.bind (copy_row l[j] (hr _ (List.getElem_mem hlt))) ?_)
    · simp only [laws_toInt64SS.l0]
      have hlen : (l.take j ++ List.replicate (m + 1) []).length = l.length := by simp; omega
      rw [if_pos (by omega), if_pos (by omega), e3, w64r (x := (j : Int) + 1) (by omega) (by omega)]
      congr 1; funext t
      rw [if_pos (by omega), Int.toNat_natCast, List.set_append, if_neg (by simp; omega)]
      simp only [List.length_take, Nat.min_eq_left (Nat.le_of_lt hlt), Nat.sub_self, List.replicate_succ, List.set_cons_zero]
      rfl
    · have := ih (j + 1) (by omega)
      rw [List.take_succ_eq_append_getElem hlt, List.append_assoc] at this
      exact this
theorem copy_rows (l : List (List Int)) (hl : l.length ≤ 1048576) (hr : ∀ r ∈ l, r.length ≤ 1048576) : Ev (fun k => laws_toInt64SS.f k l) l := by
  refine Ev.congr (fun k => ?_) (copyRows l hl hr l.length 0 (by omega))
  unfold laws_toInt64SS.f
  rw [if_pos (by omega), if_pos (by omega)]
  simp
theorem sameRow (l : List Int) (hl : l.length ≤ 1048576) (m : Nat) : ∀ j : Nat, j + m = l.length → Ev (fun k => laws_eqInt64S.l0 k l l (j : Int)) true := by
  induction m with
  | zero =>
    intro j hj
    refine Ev.step (f := fun _ => some true) (fun k => ?_) (Ev.now _)
    simp only [laws_eqInt64S.l0]; rw [if_neg (by omega)]
  | succ m ih =>
    intro j hj
    refine Ev.step (fun k => ?_) (ih (j + 1) (by omega))
    simp only [laws_eqInt64S.l0]
    rw [if_pos (by omega), if_pos (by omega), if_pos (by omega), w64r (x := (j : Int) + 1) (by omega) (by omega)]; simp only [if_true]; rfl
theorem same_row (l : List Int) (hl : l.length ≤ 1048576) : Ev (fun k => laws_eqInt64S.f k l l) true := by
  refine Ev.congr (fun k => ?_) (sameRow l hl l.length 0 (by omega))
  unfold laws_eqInt64S.f; rw [if_pos rfl]; rfl
theorem sameRows (l : List (List Int)) (hl : l.length ≤ 1048576) (hr : ∀ r ∈ l, r.length ≤ 1048576) (m : Nat) : ∀ j : Nat, j + m = l.length → Ev (fun k => laws_eqInt64SS.l0 k l l (j : Int)) true := by
  induction m with
  | zero =>
    intro j hj
    refine Ev.step (f := fun _ => some true) (fun k => ?_) (Ev.now _)
    simp only [laws_eqInt64SS.l0]; rw [if_neg (by omega)]
  | succ m ih =>
    intro j hj
    have hlt : j < l.length := by omega
    have e3 : rd_L1 l (j : Int) = l[j] := by simp [rd_L1, List.getElem?_eq_getElem hlt]
    refine Ev.step (f := fun k => (laws_eqInt64S.f k l[j] l[j]).bind fun t => if t = true then laws_eqInt64SS.l0 k l l ((j + 1 : Nat) : Int) else some false) (fun k => ?_) (Ev.bind (same_row l[j] (hr _ (List.getElem_mem hlt))) ?_)
    · simp only [laws_eqInt64SS.l0]
      rw [if_pos (by omega), if_pos (by omega), if_pos (by omega), e3, w64r (x := (j : Int) + 1) (by omega) (by omega)]; rfl
    · simp only [if_true]
      exact ih (j + 1) (by omega)
theorem same_rows (l : List (List Int)) (hl : l.length ≤ 1048576) (hr : ∀ r ∈ l, r.length ≤ 1048576) : Ev (fun k => laws_eqInt64SS.f k l l) true := by
  refine Ev.congr (fun k => ?_) (sameRows l hl hr l.length 0 (by omega))
  unfold laws_eqInt64SS.f; rw [if_pos rfl]; rfl

/-! paths: the reference's test, sums of steps -/
theorem in_is (a b c : Int) : spec_l01In.f a b c = some (decide (b ≤ a) && decide (a ≤ c)) := by
  unfold spec_l01In.f
  by_cases h : a ≥ b
  · have h' : b ≤ a := h
    rw [if_pos h, decide_eq_true h', Bool.true_and]
  · have h' : ¬ b ≤ a := h
    rw [if_neg h, decide_eq_false h', Bool.false_and]
theorem pathRow (e : Int) (l : List (List Int)) (i : Int) (row : List Int) (hi0 : 0 ≤ i) (hi1 : i < l.length) (hrow : rd_L1 l i = row) (hl : row.length ≤ 9223372036854775807) (b : Bool) (m : Nat) : ∀ j : Nat, j + m = row.length →
    Ev (fun k => spec_l04Is.l0 k e l (wrap64 (i + 1))) b →
    Ev (fun k => spec_l04Is.l1 k e l i (j : Int)) ((row.drop j).all (fun x => decide (-100 ≤ x) && decide (x ≤ 100)) && b) := by
  induction m with
  | zero =>
    intro j hj h
    rw [List.drop_eq_nil_of_le (by omega)]
    refine Ev.step (fun k => ?_) h
    simp only [spec_l04Is.l1]
    rw [if_pos hi0, if_pos hi1, hrow, if_neg (by omega)]
  | succ m ih =>
    intro j hj h
    have hlt : j < row.length := by omega
    have e3 : rd row (j : Int) = row[j] := by simp [rd, List.getElem?_eq_getElem hlt]
    rw [List.drop_eq_getElem_cons hlt, List.all_cons]
    by_cases c : (decide (-100 ≤ row[j]) && decide (row[j] ≤ 100)) = true
    · rw [c, Bool.true_and]
      refine Ev.step (fun k => ?_) (ih (j + 1) (by omega) h)
      simp only [spec_l04Is.l1]
      rw [if_pos hi0, if_pos hi1, hrow, if_pos (by omega), if_pos (by omega), e3, in_is, c, w64r (x := (j : Int) + 1) (by omega) (by omega)]
      simp
    · have c' : (decide (-100 ≤ row[j]) && decide (row[j] ≤ 100)) = false := by simpa using c
      rw [c', Bool.false_and, Bool.false_and]
      refine Ev.step (f := fun _ => some false) (fun k => ?_) (Ev.now _)
      simp only [spec_l04Is.l1]
      rw [if_pos hi0, if_pos hi1, hrow, if_pos (by omega), if_pos (by omega), e3, in_is, c']
      simp
def rowP (e : Int) (row : List Int) : Bool := decide ((row.length : Int) = e) && row.all (fun x => decide (-100 ≤ x) && decide (x ≤ 100))
theorem pathRows (e : Int) (l : List (List Int)) (hl : l.length ≤ 9223372036854775806) (hr : ∀ r ∈ l, r.length ≤ 9223372036854775807) (m : Nat) : ∀ j : Nat, j + m = l.length →
    Ev (fun k => spec_l04Is.l0 k e l (j : Int)) ((l.drop j).all (rowP e)) := by
  induction m with
  | zero =>
    intro j hj
    rw [List.drop_eq_nil_of_le (by omega)]
    refine Ev.step (f := fun _ => some true) (fun k => ?_) (Ev.now _)
    simp only [spec_l04Is.l0]; rw [if_neg (by omega)]
  | succ m ih =>
    intro j hj
    have hlt : j < l.length := by omega
    have e3 : rd_L1 l (j : Int) = l[j] := by simp [rd_L1, List.getElem?_eq_getElem hlt]
    have e4 : wrap64 ((j : Int) + 1) = ((j + 1 : Nat) : Int) := w64r (x := (j : Int) + 1) (by omega) (by omega)
    rw [List.drop_eq_getElem_cons hlt, List.all_cons]
    by_cases c : (l[j].length : Int) = e
    · have := pathRow e l (j : Int) l[j] (by omega) (by omega) e3 (hr _ (List.getElem_mem hlt)) _ l[j].length 0 (by omega) (by rw [e4]; exact ih (j + 1) (by omega))
      rw [List.drop_zero] at this
      have hh : rowP e l[j] = l[j].all (fun x => decide (-100 ≤ x) && decide (x ≤ 100)) := by simp [rowP, c]
      rw [hh]
      refine Ev.step (fun k => ?_) this
      simp only [spec_l04Is.l0]
      rw [if_pos (by omega), if_pos (by omega), e3, if_pos c]; rfl
    · have hh : rowP e l[j] = false := by simp [rowP, c]
      rw [hh, Bool.false_and]
      refine Ev.step (f := fun _ => some false) (fun k => ?_) (Ev.now _)
      simp only [spec_l04Is.l0]
      rw [if_pos (by omega), if_pos (by omega), e3, if_neg c]
theorem rowP_same (e : Int) (row : List Int) : rowP e row = Go.Proofs.YtocldhojbnegjaaC.rowOk e 100 row := by
  unfold rowP Go.Proofs.YtocldhojbnegjaaC.rowOk Go.Proofs.YtocldhojbnegjaaC.allUpTo
  rw [show wrap64 (-100) = -100 from by unfold wrap64; omega]
theorem rowOk_iff (e : Int) (row : List Int) : Go.Proofs.YtocldhojbnegjaaC.rowOk e 100 row = true ↔ (row.length : Int) = e ∧ ∀ x ∈ row, -100 ≤ x ∧ x ≤ 100 := by
  rw [← rowP_same]; simp [rowP]
/-- The reference's test for a path. -/
theorem is_path (e : Int) (l : List (List Int)) (hl : l.length ≤ 9223372036854775806) (hr : ∀ r ∈ l, r.length ≤ 9223372036854775807) : Ev (fun k => spec_l04Is.f k e l) (Go.Proofs.YtocldhojbnegjaaC.isPath e l) := by
  have hA : Ev (fun k => spec_l04Is.l0 k e l 0) (l.all (rowP e)) := by have := pathRows e l hl hr l.length 0 (by omega); rwa [List.drop_zero] at this
  have hall : l.all (rowP e) = l.all (Go.Proofs.YtocldhojbnegjaaC.rowOk e 100) := by congr 1; funext r; exact rowP_same e r
  unfold Go.Proofs.YtocldhojbnegjaaC.isPath Go.Proofs.YtocldhojbnegjaaC.letters
  by_cases c1 : (decide (1 ≤ e) && decide (e ≤ 3)) = true
  · by_cases c3 : (l.length : Int) ≤ 12
    · rw [c1, decide_eq_true c3, ← hall]
      refine Ev.congr (f := fun k => spec_l04Is.j0 k e l false) (fun k => ?_) (Ev.step (fun k => ?_) hA)
      · unfold spec_l04Is.f
        rw [in_is, c1, show decide ((l.length : Int) > 12) = false from decide_eq_false (by omega)]
        simp
      · simp [spec_l04Is.j0]
    · rw [c1, decide_eq_false c3]
      refine Ev.congr (f := fun k => spec_l04Is.j0 k e l true) (fun k => ?_) (Ev.step (f := fun _ => some false) (fun k => ?_) (Ev.now _))
      · unfold spec_l04Is.f
        rw [in_is, c1, show decide ((l.length : Int) > 12) = true from decide_eq_true (by omega)]
        simp
      · simp [spec_l04Is.j0]
  · have c1' : (decide (1 ≤ e) && decide (e ≤ 3)) = false := by simpa using c1
    rw [c1']
    refine Ev.congr (f := fun k => spec_l04Is.j0 k e l true) (fun k => ?_) (Ev.step (f := fun _ => some false) (fun k => ?_) (Ev.now _))
    · unfold spec_l04Is.f
      rw [in_is, c1']
      simp
    · simp [spec_l04Is.j0]
theorem path_facts {e : Int} {l : List (List Int)} (h : Go.Proofs.YtocldhojbnegjaaC.isPath e l = true) : 1 ≤ e ∧ e ≤ 3 ∧ l.length ≤ 12 ∧ ∀ r ∈ l, (r.length : Int) = e ∧ ∀ x ∈ r, -100 ≤ x ∧ x ≤ 100 := by
  unfold Go.Proofs.YtocldhojbnegjaaC.isPath Go.Proofs.YtocldhojbnegjaaC.letters at h
  simp only [Bool.and_eq_true, decide_eq_true_eq, List.all_eq_true] at h
  obtain ⟨⟨⟨h1, h2⟩, h3⟩, h4⟩ := h
  exact ⟨h1, h2, by omega, fun r hr => (rowOk_iff e r).1 (h4 r hr)⟩
/-- The first j places combined, the others as they were. -/
def mx (f : Int → Int → Int) (a v : List Int) (j : Nat) : List Int := (List.zipWith f a v).take j ++ a.drop j
theorem mx_zero (f : Int → Int → Int) (a v : List Int) : mx f a v 0 = a := by simp [mx]
theorem mx_all (f : Int → Int → Int) (a v : List Int) (h : v.length = a.length) : mx f a v a.length = List.zipWith f a v := by
  simp only [mx, List.drop_length, List.append_nil]
  exact List.take_of_length_le (by simp; omega)
theorem mx_len (f : Int → Int → Int) (a v : List Int) (h : v.length = a.length) (j : Nat) (hj : j ≤ a.length) : (mx f a v j).length = a.length := by simp [mx]; omega
theorem mx_rd (f : Int → Int → Int) (a v : List Int) (h : v.length = a.length) (j : Nat) (hj : j < a.length) : rd (mx f a v j) (j : Int) = rd a (j : Int) := by
  unfold rd mx
  simp only [Int.toNat_natCast, List.getD_eq_getElem?_getD]
  rw [List.getElem?_append_right (by simp; omega)]
  simp only [List.length_take, List.length_zipWith, h, Nat.min_self, Nat.min_eq_left (Nat.le_of_lt hj), Nat.sub_self, List.getElem?_drop, Nat.add_zero]
theorem mx_set (f : Int → Int → Int) (a v : List Int) (h : v.length = a.length) (j : Nat) (hj : j < a.length) : (mx f a v j).set (j : Int).toNat (f (rd (mx f a v j) (j : Int)) (rd v (j : Int))) = mx f a v (j + 1) := by
  rw [mx_rd f a v h j hj]
  unfold mx
  rw [Int.toNat_natCast, List.set_append, if_neg (by simp; omega)]
  have hz : j < (List.zipWith f a v).length := by simp; omega
  simp only [List.length_take, List.length_zipWith, h, Nat.min_self, Nat.min_eq_left (Nat.le_of_lt hj), Nat.sub_self]
  rw [List.drop_eq_getElem_cons hj, List.set_cons_zero, List.take_succ_eq_append_getElem hz, List.append_assoc]
  simp only [List.getElem_zipWith, List.singleton_append]
  congr 2
  simp [rd, List.getElem?_eq_getElem hj, List.getElem?_eq_getElem (show j < v.length by omega)]
def addI (x y : Int) : Int := wrap64 (x + y)
def addRow (a v : List Int) : List Int := List.zipWith addI a v
theorem addRow_len {a v : List Int} (h : v.length = a.length) : (addRow a v).length = a.length := by simp [addRow]; omega

theorem addedLoop (a v : List Int) (h : v.length = a.length) (hl : a.length ≤ 1048576) (m : Nat) : ∀ j : Nat, j + m = a.length → Ev (fun k => impl_added.l0 k (mx addI a v j) v (v.length : Int) (j : Int)) (addRow a v) := by
  induction m with
  | zero =>
    intro j hj
    refine Ev.step (f := fun _ => some (addRow a v)) (fun k => ?_) (Ev.now _)
    simp only [impl_added.l0]
    rw [if_neg (by omega), show j = a.length by omega, mx_all _ _ _ h]; rfl
  | succ m ih =>
    intro j hj
    have hm := mx_len addI a v h j (by omega)
    refine Ev.step (fun k => ?_) (ih (j + 1) (by omega))
    simp only [impl_added.l0]
    rw [if_pos (by omega), if_pos (by omega), if_pos (by omega), if_pos (by omega), w64r (x := (j : Int) + 1) (by omega) (by omega)]
    rw [← mx_set addI a v h j (by omega)]
    rfl
theorem added_is (a v : List Int) (h : v.length = a.length) (hl : a.length ≤ 1048576) : Ev (fun k => impl_added.f k a v) (addRow a v) := by
  refine Ev.congr (fun k => ?_) (addedLoop a v h hl a.length 0 (by omega))
  unfold impl_added.f slices_Clone_int64_int64.f
  rw [if_pos (by omega), mx_zero]; rfl

/-- Twice the area, step by step. -/
def dbl (i k : Int) : Int → List Int → List (List Int) → Int
  | s, _, [] => s
  | s, a, v :: l => dbl i k (wrap64 ((wrap64 (s + (wrap64 ((rd a i) * (rd v k))))) - (wrap64 ((rd a k) * (rd v i))))) (addRow a v) l
theorem specIn (l : List (List Int)) (i k s : Int) (a v : List Int) (h : v.length = a.length) (hl : a.length ≤ 1048576) (p : Nat) (hp : p < l.length) (hv : l[p] = v) (r : Int × Int) (hp2 : l.length ≤ 1048576)
    (hk : Ev (fun q => spec_DoubleArea.l0 q l i k s (addRow a v) ((p + 1 : Nat) : Int)) r) (m : Nat) : ∀ j : Nat, j + m = a.length → Ev (fun q => spec_DoubleArea.l1 q l i k s (mx addI a v j) (p : Int) (j : Int)) r := by
  have e3 : rd_L1 l (p : Int) = v := by simp [rd_L1, List.getElem?_eq_getElem hp, hv]
  induction m with
  | zero =>
    intro j hj
    refine Ev.step (fun q => ?_) hk
    simp only [spec_DoubleArea.l1]
    rw [if_neg (by rw [mx_len addI a v h j (by omega)]; omega), show j = a.length by omega, mx_all _ _ _ h, w64r (x := (p : Int) + 1) (by omega) (by omega)]; rfl
  | succ m ih =>
    intro j hj
    have hm := mx_len addI a v h j (by omega)
    refine Ev.step (fun q => ?_) (ih (j + 1) (by omega))
    simp only [spec_DoubleArea.l1]
    rw [if_pos (by omega), if_pos (by omega), if_pos (by omega), if_pos (by omega), e3, if_pos (by omega), w64r (x := (j : Int) + 1) (by omega) (by omega)]
    rw [← mx_set addI a v h j (by omega)]
    rfl
theorem spec_loop (l : List (List Int)) (i k : Int) (n : Nat) (hn : n ≤ 3) (hl : l.length ≤ 12) (hr : ∀ v ∈ l, v.length = n) (hi : 0 ≤ i ∧ i < n) (hk : 0 ≤ k ∧ k < n) (m : Nat) : ∀ (p : Nat) (s : Int) (a : List Int), p + m = l.length → a.length = n →
    Ev (fun q => spec_DoubleArea.l0 q l i k s a (p : Int)) (dbl i k s a (l.drop p), 0) := by
  induction m with
  | zero =>
    intro p s a hp ha
    rw [List.drop_eq_nil_of_le (by omega)]
    refine Ev.step (f := fun _ => some (s, 0)) (fun q => ?_) (Ev.now _)
    simp only [spec_DoubleArea.l0]; rw [if_neg (by omega)]
  | succ m ih =>
    intro p s a hp ha
    have hlt : p < l.length := by omega
    have e3 : rd_L1 l (p : Int) = l[p] := by simp [rd_L1, List.getElem?_eq_getElem hlt]
    have hv := hr _ (List.getElem_mem hlt)
    rw [List.drop_eq_getElem_cons hlt]
    simp only [dbl]
    have h2 := specIn l i k _ a l[p] (by omega) (by omega) p hlt rfl _ (by omega) (ih (p + 1) (wrap64 ((wrap64 (s + (wrap64 ((rd a i) * (rd l[p] k))))) - (wrap64 ((rd a k) * (rd l[p] i))))) (addRow a l[p]) (by omega) (by rw [addRow_len (by omega)]; exact ha)) a.length 0 (by omega)
    rw [mx_zero] at h2
    refine Ev.step (fun q => ?_) h2
    simp only [spec_DoubleArea.l0]
    rw [if_pos (by omega), if_pos (by omega), if_pos (by omega), if_pos (by omega), if_pos (by omega), e3, if_pos (by omega), if_pos (by omega), if_pos (by omega)]
    rfl
theorem wr (s p q : Int) : wrap64 (s + wrap64 (wrap64 p - wrap64 q)) = wrap64 (wrap64 (s + wrap64 p) - wrap64 q) := by unfold wrap64; omega
theorem impl_loop (l : List (List Int)) (i k : Int) (n : Nat) (hn : n ≤ 3) (hl : l.length ≤ 12) (hr : ∀ v ∈ l, v.length = n) (hi : 0 ≤ i ∧ i < n) (hk : 0 ≤ k ∧ k < n) (m : Nat) : ∀ (p : Nat) (s : Int) (a : List Int), p + m = l.length → a.length = n →
    Ev (fun q => impl_DoubleArea.l0 q i k a s l (l.length : Int) (p : Int)) (dbl i k s a (l.drop p), 0) := by
  induction m with
  | zero =>
    intro p s a hp ha
    rw [List.drop_eq_nil_of_le (by omega)]
    refine Ev.step (f := fun _ => some (s, 0)) (fun q => ?_) (Ev.now _)
    simp only [impl_DoubleArea.l0]; rw [if_neg (by omega)]
  | succ m ih =>
    intro p s a hp ha
    have hlt : p < l.length := by omega
    have e3 : rd_L1 l (p : Int) = l[p] := by simp [rd_L1, List.getElem?_eq_getElem hlt]
    have hv := hr _ (List.getElem_mem hlt)
    rw [List.drop_eq_getElem_cons hlt]
    simp only [dbl]
    refine Ev.step (f := fun q => (impl_added.f q a l[p]).bind fun t => impl_DoubleArea.l0 q i k t (wrap64 ((wrap64 (s + (wrap64 ((rd a i) * (rd l[p] k))))) - (wrap64 ((rd a k) * (rd l[p] i))))) l (l.length : Int) ((p + 1 : Nat) : Int)) (fun q => ?_) (Ev.bind (added_is a l[p] (by omega) (by omega)) (ih (p + 1) _ (addRow a l[p]) (by omega) (by rw [addRow_len (by omega)]; exact ha)))
    simp only [impl_DoubleArea.l0]
    rw [if_pos (by omega), if_pos (by omega), if_pos (by omega), if_pos (by omega), if_pos (by omega), if_pos (by omega), e3, if_pos (by omega), if_pos (by omega), if_pos (by omega), w64r (x := (p : Int) + 1) (by omega) (by omega), wr]
    rfl
/-- Both answers. -/
def area (e : Int) (l : List (List Int)) (i k : Int) : Int × Int := if Go.Proofs.YtocldhojbnegjaaC.isPath e l = true then (if 0 ≤ i ∧ i ≤ e - 1 ∧ 0 ≤ k ∧ k ≤ e - 1 then (dbl i k 0 (List.replicate e.toNat 0) l, 0) else (0, 2)) else (0, 1)
theorem within_is (a b c : Int) : impl_within.f a b c = some (decide (b ≤ a) && decide (a ≤ c)) := by
  unfold impl_within.f
  by_cases h : a ≥ b
  · have h' : b ≤ a := h
    rw [if_pos h, decide_eq_true h', Bool.true_and]
  · have h' : ¬ b ≤ a := h
    rw [if_neg h, decide_eq_false h', Bool.false_and]
theorem spec_area (e : Int) (l : List (List Int)) (i k : Int) (h1 : l.length ≤ 1048576) (h2 : ∀ r ∈ l, r.length ≤ 1048576) : Ev (fun q => spec_DoubleArea.f q e l i k) (area e l i k) := by
  unfold spec_DoubleArea.f area
  refine Ev.bind (is_path e l (by omega) (fun r h => by have := h2 r h; omega)) ?_
  by_cases c : Go.Proofs.YtocldhojbnegjaaC.isPath e l = true
  · obtain ⟨e1, e2, h3, h4⟩ := path_facts c
    rw [if_pos c]
    simp only [c, if_true, in_is, Option.bind_some, w64r (x := e - 1) (by omega) (by omega)]
    by_cases c1 : (decide (0 ≤ i) && decide (i ≤ e - 1)) = true
    · have c1' := c1
      simp only [Bool.and_eq_true, decide_eq_true_eq] at c1'
      by_cases c2 : (decide (0 ≤ k) && decide (k ≤ e - 1)) = true
      · have c2' := c2
        simp only [Bool.and_eq_true, decide_eq_true_eq] at c2'
        simp only [c1, c2, if_true]
        rw [if_pos ⟨c1'.1, c1'.2, c2'.1, c2'.2⟩]
        have := spec_loop l i k e.toNat (by omega) h3 (fun v hv => by have := (h4 v hv).1; omega) (by omega) (by omega) l.length 0 0 (List.replicate e.toNat 0) (by omega) (by simp)
        rw [List.drop_zero] at this
        refine Ev.congr (fun q => ?_) this
        rw [if_pos (by omega), if_pos (by omega)]; rfl
      · have c2' := c2
        simp only [Bool.and_eq_true, decide_eq_true_eq] at c2'
        simp only [c1, c2, if_true, if_false, Bool.false_eq_true]
        rw [if_neg (by omega)]; exact Ev.now _
    · have c1' := c1
      simp only [Bool.and_eq_true, decide_eq_true_eq] at c1'
      simp only [c1, if_false, Bool.false_eq_true]
      rw [if_neg (by omega)]; exact Ev.now _
  · rw [if_neg c]
    simp only [c, if_false, Bool.false_eq_true]
    exact Ev.now _
theorem impl_area (e : Int) (l : List (List Int)) (i k : Int) : Ev (fun q => impl_DoubleArea.f q e l i k) (area e l i k) := by
  unfold impl_DoubleArea.f area impl_IsPath.f
  by_cases c : Go.Proofs.YtocldhojbnegjaaC.isPath e l = true
  · obtain ⟨e1, e2, h3, h4⟩ := path_facts c
    rw [if_pos c]
    simp only [c, if_true, within_is, Option.bind_some, w64r (x := e - 1) (by omega) (by omega)]
    by_cases c1 : (decide (0 ≤ i) && decide (i ≤ e - 1)) = true
    · have c1' := c1
      simp only [Bool.and_eq_true, decide_eq_true_eq] at c1'
      by_cases c2 : (decide (0 ≤ k) && decide (k ≤ e - 1)) = true
      · have c2' := c2
        simp only [Bool.and_eq_true, decide_eq_true_eq] at c2'
        simp only [c1, c2, if_true, Bool.not_true]
        rw [if_pos ⟨c1'.1, c1'.2, c2'.1, c2'.2⟩]
        have := impl_loop l i k e.toNat (by omega) h3 (fun v hv => by have := (h4 v hv).1; omega) (by omega) (by omega) l.length 0 0 (List.replicate e.toNat 0) (by omega) (by simp)
        rw [List.drop_zero] at this
        refine Ev.step (fun q => ?_) this
        simp only [impl_DoubleArea.j0, Bool.false_eq_true, if_false]
        rw [if_pos (by omega), if_pos (by omega)]; rfl
      · have c2' := c2
        simp only [Bool.and_eq_true, decide_eq_true_eq] at c2'
        have c3 : (decide (0 ≤ k) && decide (k ≤ e - 1)) = false := by simpa using c2
        simp only [c1, c3, if_true, Bool.not_false]
        rw [if_neg (by omega)]
        exact Ev.step (f := fun _ => some (0, 2)) (fun q => by simp [impl_DoubleArea.j0]) (Ev.now _)
    · have c1' := c1
      simp only [Bool.and_eq_true, decide_eq_true_eq] at c1'
      simp only [c1, if_false, Bool.false_eq_true]
      rw [if_neg (by omega)]
      exact Ev.step (f := fun _ => some (0, 2)) (fun q => by simp [impl_DoubleArea.j0]) (Ev.now _)
  · rw [if_neg c]
    simp only [c, if_false, Bool.false_eq_true, Option.bind_some]
    exact Ev.now _
theorem FnExactDoubleArea : laws_FnExactDoubleArea.Pure := by
  intro d l i j _ hl _ _
  obtain ⟨hl, hr⟩ := hl
  have hr' : ∀ r ∈ l, r.length ≤ 9223372036854775807 := fun r h => (hr r h).1
  obtain ⟨r, hs, hc⟩ := sz_both l hl hr'
  unfold laws_FnExactDoubleArea.f
  refine Ev.rounds (Ev.bind hs ?_)
  by_cases c : r < 0
  · simp only [c, if_true]; exact Ev.now _
  · simp only [c, if_false]
    have ht : l.length + total l ≤ 1048576 := by rcases hc with hc | hc; exact absurd hc c; exact hc
    have h1 : l.length ≤ 1048576 := by omega
    have h2 : ∀ r ∈ l, r.length ≤ 1048576 := fun r h => by have := total_mem h; omega
    have hcp := copy_rows l h1 h2
    refine Ev.bind hcp (Ev.bind (spec_area d l i j h1 h2) (Ev.bind hcp (Ev.bind (impl_area d l i j) ?_)))
    simp only [bne_self_eq_false, if_true]
    refine Ev.step (f := fun k => (laws_toInt64SS.f k l).bind fun t => (laws_eqInt64SS.f k l t).bind fun t => if t = true then some true else some false) (fun k => ?_) (Ev.bind hcp (Ev.bind (same_rows l h1 h2) ?_))
    · simp only [laws_FnExactDoubleArea.j0, if_false, Bool.false_eq_true]
    · simp only [if_true]; exact Ev.now _

end Go.Proofs.Ytocldhojbnegjaa.Pure
