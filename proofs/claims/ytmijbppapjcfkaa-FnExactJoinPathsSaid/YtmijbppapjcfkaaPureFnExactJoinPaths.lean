/- FnExactJoinPaths: for all arguments, the program's JoinPaths answers what the reference's answers, in new memory, and turns nothing. No condition. -/
import Derived.Test.YtmijbppapjcfkaaQFnExactJoinPathsy
namespace Go.Proofs.Ytmijbppapjcfkaa.Pure
open Go.RowKit Go.Proofs.Ytmijbppapjcfkaa.PFnExactJoinPaths Go.Proofs.YtmijbppapjcfkaaW.PrintWords Go.Proofs.YtmijbppapjcfkaaW.PrintLast
set_option linter.unusedSimpArgs false
set_option linter.unusedVariables false

/-! slices of slices of numbers: how long, copied, compared -/
theorem w64r {x : Int} (h0 : -9223372036854775808 ≤ x) (h1 : x ≤ 9223372036854775807) : wrap64 x = x := by unfold wrap64; omega
def total (l : List (List Int)) : Nat := (l.map List.length).sum
theorem szRow (l : List Int) (a : Int) (hl : l.length ≤ 9223372036854775807) (ha : 0 ≤ a) (ha1 : a ≤ 1048576) : laws_szInt64S.f l a = some (if a - l.length < 0 then -1 else a - l.length) := by
  unfold laws_szInt64S.f
  rw [w64r (by omega) (by omega)]
  split <;> rfl
theorem szRows (l : List (List Int)) (hl : l.length ≤ 9223372036854775807) (hr : ∀ r ∈ l, r.length ≤ 9223372036854775807) (m : Nat) : ∀ (j : Nat) (a : Int), j + m = l.length → 0 ≤ a → a ≤ 1048576 →
    ∃ r : Int, Ev (fun k => laws_szInt64SS.l0 k l a (j : Int)) r ∧ (r < 0 ∨ r = a - total (l.drop j)) := by
  induction m with
  | zero =>
    intro j a hj ha ha1
    refine ⟨a, Ev.step (f := fun _ => some a) (fun k => ?_) (Ev.now _), .inr ?_⟩
    · simp only [laws_szInt64SS.l0]; rw [if_neg (by omega)]
    · rw [List.drop_eq_nil_of_le (by omega)]; simp [total]
  | succ m ih =>
    intro j a hj ha ha1
    have hlt : j < l.length := by omega
    have e3 : rd_L1 l (j : Int) = l[j] := by simp [rd_L1, List.getElem?_eq_getElem hlt]
    have hrow := szRow l[j] a (hr _ (List.getElem_mem hlt)) ha ha1
    have hd : total (l.drop j) = l[j].length + total (l.drop (j + 1)) := by
      rw [List.drop_eq_getElem_cons hlt]; simp only [total, List.map_cons, List.sum_cons]
    by_cases c : a - l[j].length < 0
    · refine ⟨-1, Ev.step (f := fun _ => some (-1)) (fun k => ?_) (Ev.now _), .inl (by omega)⟩
      simp only [laws_szInt64SS.l0]
      rw [if_pos (by omega), if_pos (by omega), e3, hrow, if_pos c]
      simp
    · obtain ⟨r, h1, h2⟩ := ih (j + 1) (a - l[j].length) (by omega) (by omega) (by omega)
      refine ⟨r, Ev.step (fun k => ?_) h1, ?_⟩
      · simp only [laws_szInt64SS.l0]
        rw [if_pos (by omega), if_pos (by omega), e3, hrow, if_neg c]
        simp only [Option.bind_some]
        rw [if_neg c, w64r (x := (j : Int) + 1) (by omega) (by omega)]
        rfl
      · rcases h2 with h2 | h2
        · exact .inl h2
        · right; rw [h2, hd]; omega
/-- The size check: it ends; and where it does not turn the input away the rows are short. -/
theorem sz_both (l : List (List Int)) (hl : l.length ≤ 9223372036854775807) (hr : ∀ r ∈ l, r.length ≤ 9223372036854775807) : ∃ r : Int, Ev (fun k => laws_szInt64SS.f k l 1048576) r ∧ (r < 0 ∨ l.length + total l ≤ 1048576) := by
  by_cases c : wrap64 (1048576 - (l.length : Int)) < 0
  · exact ⟨-1, Ev.congr (g := fun k => laws_szInt64SS.f k l 1048576) (f := fun _ => some (-1)) (fun k => by unfold laws_szInt64SS.f; rw [if_pos c]) (Ev.now _), .inl (by omega)⟩
  · have e : wrap64 (1048576 - (l.length : Int)) = 1048576 - l.length := w64r (by omega) (by omega)
    rw [e] at c
    obtain ⟨r, h1, h2⟩ := szRows l hl hr l.length 0 (1048576 - l.length) (by omega) (by omega) (by omega)
    refine ⟨r, Ev.congr (fun k => ?_) h1, ?_⟩
    · show laws_szInt64SS.f k l 1048576 = _
      unfold laws_szInt64SS.f; rw [e, if_neg c]; rfl
    · rcases h2 with h2 | h2
      · exact .inl h2
      · rw [List.drop_zero] at h2
        by_cases h : r < 0
        · exact .inl h
        · right; omega
theorem total_mem {l : List (List Int)} {r : List Int} (h : r ∈ l) : r.length ≤ total l := by
  induction l with
  | nil => simp at h
  | cons a l ih =>
    simp only [total, List.map_cons, List.sum_cons]
    rcases List.mem_cons.1 h with rfl | h
    · omega
    · have := ih h; simp only [total] at this; omega
theorem copyRow (l : List Int) (hl : l.length ≤ 1048576) (m : Nat) : ∀ j : Nat, j + m = l.length → Ev (fun k => laws_toInt64S.l0 k l (l.take j ++ List.replicate m 0) (j : Int)) l := by
  induction m with
  | zero =>
    intro j hj
    refine Ev.step (f := fun _ => some l) (fun k => ?_) (Ev.now _)
    simp only [laws_toInt64S.l0]
    rw [if_neg (by omega), List.take_of_length_le (by omega)]; simp
  | succ m ih =>
    intro j hj
    have hlt : j < l.length := by omega
    refine Ev.step (fun k => ?_) (ih (j + 1) (by omega))
    simp only [laws_toInt64S.l0]
    have hlen : (l.take j ++ List.replicate (m + 1) 0).length = l.length := by simp; omega
    rw [if_pos (by omega), if_pos (by omega), if_pos (by omega), w64r (x := (j : Int) + 1) (by omega) (by omega)]
    have e : (l.take j ++ List.replicate (m + 1) 0).set (j : Int).toNat (rd l (j : Int)) = l.take (j + 1) ++ List.replicate m 0 := by
      rw [Int.toNat_natCast, List.set_append, if_neg (by simp; omega)]
      simp only [List.length_take, Nat.min_eq_left (Nat.le_of_lt hlt), Nat.sub_self, List.replicate_succ, List.set_cons_zero]
      have e5 : rd l (j : Int) = l[j] := by simp [rd, List.getElem?_eq_getElem hlt]
      rw [e5, List.take_succ_eq_append_getElem hlt, List.append_assoc]; rfl
    rw [e]; rfl
theorem copy_row (l : List Int) (hl : l.length ≤ 1048576) : Ev (fun k => laws_toInt64S.f k l) l := by
  refine Ev.congr (fun k => ?_) (copyRow l hl l.length 0 (by omega))
  unfold laws_toInt64S.f
  rw [if_pos (by omega), if_pos (by omega)]
  simp
theorem copyRows (l : List (List Int)) (hl : l.length ≤ 1048576) (hr : ∀ r ∈ l, r.length ≤ 1048576) (m : Nat) : ∀ j : Nat, j + m = l.length → Ev (fun k => laws_toInt64SS.l0 k l (l.take j ++ List.replicate m []) (j : Int)) l := by
  induction m with
  | zero =>
    intro j hj
    refine Ev.step (f := fun _ => some l) (fun k => ?_) (Ev.now _)
    simp only [laws_toInt64SS.l0]
    rw [if_neg (by omega), List.take_of_length_le (by omega)]; simp
  | succ m ih =>
    intro j hj
    have hlt : j < l.length := by omega
    have e3 : rd_L1 l (j : Int) = l[j] := by simp [rd_L1, List.getElem?_eq_getElem hlt]
    refine Ev.step (f := fun k => (laws_toInt64S.f k l[j]).bind fun t => laws_toInt64SS.l0 k l (l.take j ++ t :: List.replicate m []) ((j + 1 : Nat) : Int)) (fun k => ?_) (Ev.bind (copy_row l[j] (hr _ (List.getElem_mem hlt))) ?_)
    · simp only [laws_toInt64SS.l0]
      have hlen : (l.take j ++ List.replicate (m + 1) []).length = l.length := by simp; omega
      rw [if_pos (by omega), if_pos (by omega), e3, w64r (x := (j : Int) + 1) (by omega) (by omega)]
      congr 1; funext t
      rw [if_pos (by omega), Int.toNat_natCast, List.set_append, if_neg (by simp; omega)]
      simp only [List.length_take, Nat.min_eq_left (Nat.le_of_lt hlt), Nat.sub_self, List.replicate_succ, List.set_cons_zero]
      rfl
    · have := ih (j + 1) (by omega)
      rw [List.take_succ_eq_append_getElem hlt, List.append_assoc] at this
      exact this
theorem copy_rows (l : List (List Int)) (hl : l.length ≤ 1048576) (hr : ∀ r ∈ l, r.length ≤ 1048576) : Ev (fun k => laws_toInt64SS.f k l) l := by
  refine Ev.congr (fun k => ?_) (copyRows l hl hr l.length 0 (by omega))
  unfold laws_toInt64SS.f
  rw [if_pos (by omega), if_pos (by omega)]
  simp
theorem sameRow (l : List Int) (hl : l.length ≤ 1048576) (m : Nat) : ∀ j : Nat, j + m = l.length → Ev (fun k => laws_eqInt64S.l0 k l l (j : Int)) true := by
  induction m with
  | zero =>
    intro j hj
    refine Ev.step (f := fun _ => some true) (fun k => ?_) (Ev.now _)
    simp only [laws_eqInt64S.l0]; rw [if_neg (by omega)]
  | succ m ih =>
    intro j hj
    refine Ev.step (fun k => ?_) (ih (j + 1) (by omega))
    simp only [laws_eqInt64S.l0]
    rw [if_pos (by omega), if_pos (by omega), if_pos (by omega), w64r (x := (j : Int) + 1) (by omega) (by omega)]; simp only [if_true]; rfl
theorem same_row (l : List Int) (hl : l.length ≤ 1048576) : Ev (fun k => laws_eqInt64S.f k l l) true := by
  refine Ev.congr (fun k => ?_) (sameRow l hl l.length 0 (by omega))
  unfold laws_eqInt64S.f; rw [if_pos rfl]; rfl
theorem sameRows (l : List (List Int)) (hl : l.length ≤ 1048576) (hr : ∀ r ∈ l, r.length ≤ 1048576) (m : Nat) : ∀ j : Nat, j + m = l.length → Ev (fun k => laws_eqInt64SS.l0 k l l (j : Int)) true := by
  induction m with
  | zero =>
    intro j hj
    refine Ev.step (f := fun _ => some true) (fun k => ?_) (Ev.now _)
    simp only [laws_eqInt64SS.l0]; rw [if_neg (by omega)]
  | succ m ih =>
    intro j hj
    have hlt : j < l.length := by omega
    have e3 : rd_L1 l (j : Int) = l[j] := by simp [rd_L1, List.getElem?_eq_getElem hlt]
    refine Ev.step (f := fun k => (laws_eqInt64S.f k l[j] l[j]).bind fun t => if t = true then laws_eqInt64SS.l0 k l l ((j + 1 : Nat) : Int) else some false) (fun k => ?_) (Ev.bind (same_row l[j] (hr _ (List.getElem_mem hlt))) ?_)
    · simp only [laws_eqInt64SS.l0]
      rw [if_pos (by omega), if_pos (by omega), if_pos (by omega), e3, w64r (x := (j : Int) + 1) (by omega) (by omega)]; rfl
    · simp only [if_true]
      exact ih (j + 1) (by omega)
theorem same_rows (l : List (List Int)) (hl : l.length ≤ 1048576) (hr : ∀ r ∈ l, r.length ≤ 1048576) : Ev (fun k => laws_eqInt64SS.f k l l) true := by
  refine Ev.congr (fun k => ?_) (sameRows l hl hr l.length 0 (by omega))
  unfold laws_eqInt64SS.f; rw [if_pos rfl]; rfl

theorem sz_any (l : List (List Int)) (a : Int) (ha : 0 ≤ a) (ha1 : a ≤ 1048576) (hl : l.length ≤ 9223372036854775807) (hr : ∀ r ∈ l, r.length ≤ 9223372036854775807) : ∃ r : Int, Ev (fun k => laws_szInt64SS.f k l a) r ∧ (r < 0 ∨ r = a - l.length - total l) := by
  by_cases c : wrap64 (a - (l.length : Int)) < 0
  · exact ⟨-1, Ev.congr (g := fun k => laws_szInt64SS.f k l a) (f := fun _ => some (-1)) (fun k => by unfold laws_szInt64SS.f; rw [if_pos c]) (Ev.now _), .inl (by omega)⟩
  · have e : wrap64 (a - (l.length : Int)) = a - l.length := w64r (by omega) (by omega)
    rw [e] at c
    obtain ⟨r, h1, h2⟩ := szRows l hl hr l.length 0 (a - l.length) (by omega) (by omega) (by omega)
    refine ⟨r, Ev.congr (fun k => ?_) h1, ?_⟩
    · show laws_szInt64SS.f k l a = _
      unfold laws_szInt64SS.f; rw [e, if_neg c]; rfl
    · rcases h2 with h2 | h2
      · exact .inl h2
      · rw [List.drop_zero] at h2; exact .inr h2

/-! paths: the reference's test, sums of steps -/
theorem in_is (a b c : Int) : spec_l01In.f a b c = some (decide (b ≤ a) && decide (a ≤ c)) := by
  unfold spec_l01In.f
  by_cases h : a ≥ b
  · have h' : b ≤ a := h
    rw [if_pos h, decide_eq_true h', Bool.true_and]
  · have h' : ¬ b ≤ a := h
    rw [if_neg h, decide_eq_false h', Bool.false_and]
theorem pathRow (e : Int) (l : List (List Int)) (i : Int) (row : List Int) (hi0 : 0 ≤ i) (hi1 : i < l.length) (hrow : rd_L1 l i = row) (hl : row.length ≤ 9223372036854775807) (b : Bool) (m : Nat) : ∀ j : Nat, j + m = row.length →
    Ev (fun k => spec_l04Is.l0 k e l (wrap64 (i + 1))) b →
    Ev (fun k => spec_l04Is.l1 k e l i (j : Int)) ((row.drop j).all (fun x => decide (-100 ≤ x) && decide (x ≤ 100)) && b) := by
  induction m with
  | zero =>
    intro j hj h
    rw [List.drop_eq_nil_of_le (by omega)]
    refine Ev.step (fun k => ?_) h
    simp only [spec_l04Is.l1]
    rw [if_pos hi0, if_pos hi1, hrow, if_neg (by omega)]
  | succ m ih =>
    intro j hj h
    have hlt : j < row.length := by omega
    have e3 : rd row (j : Int) = row[j] := by simp [rd, List.getElem?_eq_getElem hlt]
    rw [List.drop_eq_getElem_cons hlt, List.all_cons]
    by_cases c : (decide (-100 ≤ row[j]) && decide (row[j] ≤ 100)) = true
    · rw [c, Bool.true_and]
      refine Ev.step (fun k => ?_) (ih (j + 1) (by omega) h)
      simp only [spec_l04Is.l1]
      rw [if_pos hi0, if_pos hi1, hrow, if_pos (by omega), if_pos (by omega), e3, in_is, c, w64r (x := (j : Int) + 1) (by omega) (by omega)]
      simp
    · have c' : (decide (-100 ≤ row[j]) && decide (row[j] ≤ 100)) = false := by simpa using c
      rw [c', Bool.false_and, Bool.false_and]
      refine Ev.step (f := fun _ => some false) (fun k => ?_) (Ev.now _)
      simp only [spec_l04Is.l1]
      rw [if_pos hi0, if_pos hi1, hrow, if_pos (by omega), if_pos (by omega), e3, in_is, c']
      simp
def rowP (e : Int) (row : List Int) : Bool := decide ((row.length : Int) = e) && row.all (fun x => decide (-100 ≤ x) && decide (x ≤ 100))
theorem pathRows (e : Int) (l : List (List Int)) (hl : l.length ≤ 9223372036854775806) (hr : ∀ r ∈ l, r.length ≤ 9223372036854775807) (m : Nat) : ∀ j : Nat, j + m = l.length →
    Ev (fun k => spec_l04Is.l0 k e l (j : Int)) ((l.drop j).all (rowP e)) := by
  induction m with
  | zero =>
    intro j hj
    rw [List.drop_eq_nil_of_le (by omega)]
    refine Ev.step (f := fun _ => some true) (fun k => ?_) (Ev.now _)
    simp only [spec_l04Is.l0]; rw [if_neg (by omega)]
  | succ m ih =>
    intro j hj
    have hlt : j < l.length := by omega
    have e3 : rd_L1 l (j : Int) = l[j] := by simp [rd_L1, List.getElem?_eq_getElem hlt]
    have e4 : wrap64 ((j : Int) + 1) = ((j + 1 : Nat) : Int) := w64r (x := (j : Int) + 1) (by omega) (by omega)
    rw [List.drop_eq_getElem_cons hlt, List.all_cons]
    by_cases c : (l[j].length : Int) = e
    · have := pathRow e l (j : Int) l[j] (by omega) (by omega) e3 (hr _ (List.getElem_mem hlt)) _ l[j].length 0 (by omega) (by rw [e4]; exact ih (j + 1) (by omega))
      rw [List.drop_zero] at this
      have hh : rowP e l[j] = l[j].all (fun x => decide (-100 ≤ x) && decide (x ≤ 100)) := by simp [rowP, c]
      rw [hh]
      refine Ev.step (fun k => ?_) this
      simp only [spec_l04Is.l0]
      rw [if_pos (by omega), if_pos (by omega), e3, if_pos c]; rfl
    · have hh : rowP e l[j] = false := by simp [rowP, c]
      rw [hh, Bool.false_and]
      refine Ev.step (f := fun _ => some false) (fun k => ?_) (Ev.now _)
      simp only [spec_l04Is.l0]
      rw [if_pos (by omega), if_pos (by omega), e3, if_neg c]
theorem rowP_same (e : Int) (row : List Int) : rowP e row = Go.Proofs.YtmijbppapjcfkaaC.rowOk e 100 row := by
  unfold rowP Go.Proofs.YtmijbppapjcfkaaC.rowOk Go.Proofs.YtmijbppapjcfkaaC.allUpTo
  rw [show wrap64 (-100) = -100 from by unfold wrap64; omega]
theorem rowOk_iff (e : Int) (row : List Int) : Go.Proofs.YtmijbppapjcfkaaC.rowOk e 100 row = true ↔ (row.length : Int) = e ∧ ∀ x ∈ row, -100 ≤ x ∧ x ≤ 100 := by
  rw [← rowP_same]; simp [rowP]
/-- The reference's test for a path. -/
theorem is_path (e : Int) (l : List (List Int)) (hl : l.length ≤ 9223372036854775806) (hr : ∀ r ∈ l, r.length ≤ 9223372036854775807) : Ev (fun k => spec_l04Is.f k e l) (Go.Proofs.YtmijbppapjcfkaaC.isPath e l) := by
  have hA : Ev (fun k => spec_l04Is.l0 k e l 0) (l.all (rowP e)) := by have := pathRows e l hl hr l.length 0 (by omega); rwa [List.drop_zero] at this
  have hall : l.all (rowP e) = l.all (Go.Proofs.YtmijbppapjcfkaaC.rowOk e 100) := by congr 1; funext r; exact rowP_same e r
  unfold Go.Proofs.YtmijbppapjcfkaaC.isPath Go.Proofs.YtmijbppapjcfkaaC.letters
  by_cases c1 : (decide (1 ≤ e) && decide (e ≤ 3)) = true
  · by_cases c3 : (l.length : Int) ≤ 12
    · rw [c1, decide_eq_true c3, ← hall]
      refine Ev.congr (f := fun k => spec_l04Is.j0 k e l false) (fun k => ?_) (Ev.step (fun k => ?_) hA)
      · unfold spec_l04Is.f
        rw [in_is, c1, show decide ((l.length : Int) > 12) = false from decide_eq_false (by omega)]
        simp
      · simp [spec_l04Is.j0]
    · rw [c1, decide_eq_false c3]
      refine Ev.congr (f := fun k => spec_l04Is.j0 k e l true) (fun k => ?_) (Ev.step (f := fun _ => some false) (fun k => ?_) (Ev.now _))
      · unfold spec_l04Is.f
        rw [in_is, c1, show decide ((l.length : Int) > 12) = true from decide_eq_true (by omega)]
        simp
      · simp [spec_l04Is.j0]
  · have c1' : (decide (1 ≤ e) && decide (e ≤ 3)) = false := by simpa using c1
    rw [c1']
    refine Ev.congr (f := fun k => spec_l04Is.j0 k e l true) (fun k => ?_) (Ev.step (f := fun _ => some false) (fun k => ?_) (Ev.now _))
    · unfold spec_l04Is.f
      rw [in_is, c1']
      simp
    · simp [spec_l04Is.j0]
theorem path_facts {e : Int} {l : List (List Int)} (h : Go.Proofs.YtmijbppapjcfkaaC.isPath e l = true) : 1 ≤ e ∧ e ≤ 3 ∧ l.length ≤ 12 ∧ ∀ r ∈ l, (r.length : Int) = e ∧ ∀ x ∈ r, -100 ≤ x ∧ x ≤ 100 := by
  unfold Go.Proofs.YtmijbppapjcfkaaC.isPath Go.Proofs.YtmijbppapjcfkaaC.letters at h
  simp only [Bool.and_eq_true, decide_eq_true_eq, List.all_eq_true] at h
  obtain ⟨⟨⟨h1, h2⟩, h3⟩, h4⟩ := h
  exact ⟨h1, h2, by omega, fun r hr => (rowOk_iff e r).1 (h4 r hr)⟩
/-- The first j places combined, the others as they were. -/
def mx (f : Int → Int → Int) (a v : List Int) (j : Nat) : List Int := (List.zipWith f a v).take j ++ a.drop j
theorem mx_zero (f : Int → Int → Int) (a v : List Int) : mx f a v 0 = a := by simp [mx]
theorem mx_all (f : Int → Int → Int) (a v : List Int) (h : v.length = a.length) : mx f a v a.length = List.zipWith f a v := by
  simp only [mx, List.drop_length, List.append_nil]
  exact List.take_of_length_le (by simp; omega)
theorem mx_len (f : Int → Int → Int) (a v : List Int) (h : v.length = a.length) (j : Nat) (hj : j ≤ a.length) : (mx f a v j).length = a.length := by simp [mx]; omega
theorem mx_rd (f : Int → Int → Int) (a v : List Int) (h : v.length = a.length) (j : Nat) (hj : j < a.length) : rd (mx f a v j) (j : Int) = rd a (j : Int) := by
  unfold rd mx
  simp only [Int.toNat_natCast, List.getD_eq_getElem?_getD]
  rw [List.getElem?_append_right (by simp; omega)]
  simp only [List.length_take, List.length_zipWith, h, Nat.min_self, Nat.min_eq_left (Nat.le_of_lt hj), Nat.sub_self, List.getElem?_drop, Nat.add_zero]
theorem mx_set (f : Int → Int → Int) (a v : List Int) (h : v.length = a.length) (j : Nat) (hj : j < a.length) : (mx f a v j).set (j : Int).toNat (f (rd (mx f a v j) (j : Int)) (rd v (j : Int))) = mx f a v (j + 1) := by
  rw [mx_rd f a v h j hj]
  unfold mx
  rw [Int.toNat_natCast, List.set_append, if_neg (by simp; omega)]
  have hz : j < (List.zipWith f a v).length := by simp; omega
  simp only [List.length_take, List.length_zipWith, h, Nat.min_self, Nat.min_eq_left (Nat.le_of_lt hj), Nat.sub_self]
  rw [List.drop_eq_getElem_cons hj, List.set_cons_zero, List.take_succ_eq_append_getElem hz, List.append_assoc]
  simp only [List.getElem_zipWith, List.singleton_append]
  congr 2
  simp [rd, List.getElem?_eq_getElem hj, List.getElem?_eq_getElem (show j < v.length by omega)]
def addI (x y : Int) : Int := wrap64 (x + y)
def addRow (a v : List Int) : List Int := List.zipWith addI a v
theorem addRow_len {a v : List Int} (h : v.length = a.length) : (addRow a v).length = a.length := by simp [addRow]; omega

theorem toldLoop (l : List (List Int)) (hl : l.length ≤ 12) (hr : ∀ v ∈ l, v.length ≤ 3) (m : Nat) : ∀ p : Nat, p + m = l.length → Ev (fun q => spec_l04Told.l0 q l (l.take p) (p : Int)) (l, 0) := by
  induction m with
  | zero =>
    intro p hp
    refine Ev.step (f := fun _ => some (l, 0)) (fun q => ?_) (Ev.now _)
    simp only [spec_l04Told.l0]
    rw [if_neg (by omega), List.take_of_length_le (by omega)]
  | succ m ih =>
    intro p hp
    have hlt : p < l.length := by omega
    have e3 : rd_L1 l (p : Int) = l[p] := by simp [rd_L1, List.getElem?_eq_getElem hlt]
    have hv := hr _ (List.getElem_mem hlt)
    have h := ih (p + 1) (by omega)
    rw [List.take_succ_eq_append_getElem hlt] at h
    refine Ev.step (fun q => ?_) h
    simp only [spec_l04Told.l0]
    rw [if_pos (by omega), if_pos (by omega), e3, show spec_l01Own.f l[p] = some l[p] from by unfold spec_l01Own.f; simp; omega, Option.bind_some, if_pos (by rw [List.length_take]; omega), w64r (x := (p : Int) + 1) (by omega) (by omega)]
    rfl
theorem told_is (e : Int) (l : List (List Int)) (h1 : l.length ≤ 1048576) (h2 : ∀ r ∈ l, r.length ≤ 1048576) : Ev (fun q => spec_l04Told.f q e l) (if Go.Proofs.YtmijbppapjcfkaaC.isPath e l = true then l else [], if Go.Proofs.YtmijbppapjcfkaaC.isPath e l = true then 0 else 3) := by
  unfold spec_l04Told.f
  refine Ev.bind (is_path e l (by omega) (fun r h => by have := h2 r h; omega)) ?_
  by_cases c : Go.Proofs.YtmijbppapjcfkaaC.isPath e l = true
  · obtain ⟨e1, e2, h3, h4⟩ := path_facts c
    simp only [c, if_true]
    have h := toldLoop l h3 (fun v hv => by have := (h4 v hv).1; omega) l.length 0 (by omega)
    rw [List.take_zero] at h
    exact h
  · simp only [c, if_false, Bool.false_eq_true]
    exact Ev.now _

/-! marks of numbers -/
theorem step_set {α : Type} (A B : List α) (h : A.length = B.length) (j : Nat) (hj : j < A.length) : (A.take j ++ B.drop j).set j A[j] = A.take (j + 1) ++ B.drop (j + 1) := by
  have hjB : j < B.length := by omega
  rw [List.set_append, if_neg (by simp; omega)]
  simp only [List.length_take, Nat.min_eq_left (Nat.le_of_lt hj), Nat.sub_self]
  rw [List.drop_eq_getElem_cons hjB, List.set_cons_zero, List.take_succ_eq_append_getElem hj, List.append_assoc]; rfl
def nums (k0 : Int) (n : Nat) : List Int := (List.range n).map fun j => k0 + (j : Nat)
theorem nums_len (k0 : Int) (n : Nat) : (nums k0 n).length = n := by simp [nums]
theorem nums_at (k0 : Int) (n j : Nat) (h : j < (nums k0 n).length) : (nums k0 n)[j] = k0 + (j : Nat) := by simp [nums]
theorem markI_loop (l : List Int) (k0 : Int) (h0 : 0 ≤ k0) (h1 : k0 + l.length ≤ 1152921504606846976) (m : Nat) : ∀ j : Nat, j + m = l.length →
    Ev (fun q => laws_markInt64S.l0 q ((nums k0 l.length).take j ++ l.drop j) (k0 + j) (j : Int)) (k0 + l.length, nums k0 l.length) := by
  induction m with
  | zero =>
    intro j hj
    refine Ev.step (f := fun _ => some (k0 + l.length, nums k0 l.length)) (fun q => ?_) (Ev.now _)
    simp only [laws_markInt64S.l0]
    rw [if_neg (by simp [nums_len]; omega), show j = l.length by omega, List.drop_length, List.append_nil, List.take_of_length_le (by rw [nums_len]; omega)]
  | succ m ih =>
    intro j hj
    have hlt : j < (nums k0 l.length).length := by rw [nums_len]; omega
    refine Ev.step (fun q => ?_) (ih (j + 1) (by omega))
    simp only [laws_markInt64S.l0]
    rw [if_pos (by simp [nums_len]; omega), if_pos (by omega), w64r (x := k0 + j + 1) (by omega) (by omega), w64r (x := (j : Int) + 1) (by omega) (by omega), Int.toNat_natCast]
    have := step_set (nums k0 l.length) l (nums_len _ _) j hlt
    rw [nums_at] at this
    rw [this, show k0 + (j : Int) + 1 = k0 + ((j + 1 : Nat) : Int) by omega]; rfl
theorem markI (l : List Int) (k0 : Int) (h0 : 0 ≤ k0) (h1 : k0 + l.length ≤ 1152921504606846976) : Ev (fun q => laws_markInt64S.f q l k0) (k0 + l.length, nums k0 l.length) := by
  have := markI_loop l k0 h0 h1 l.length 0 (by omega)
  simpa [laws_markInt64S.f] using this
theorem heldI_loop (n : Nat) (k0 : Int) (h0 : 0 ≤ k0) (h1 : k0 + n ≤ 1152921504606846976) (m : Nat) : ∀ j : Nat, j + m = n →
    Ev (fun q => laws_heldInt64S.l0 q (nums k0 n) (k0 + j) (j : Int)) (k0 + n) := by
  induction m with
  | zero =>
    intro j hj
    refine Ev.step (f := fun _ => some (k0 + n)) (fun q => ?_) (Ev.now _)
    simp only [laws_heldInt64S.l0]
    rw [if_neg (by rw [nums_len]; omega), show j = n by omega]
  | succ m ih =>
    intro j hj
    have hlt : j < (nums k0 n).length := by rw [nums_len]; omega
    refine Ev.step (fun q => ?_) (ih (j + 1) (by omega))
    simp only [laws_heldInt64S.l0]
    have e3 : rd (nums k0 n) (j : Int) = k0 + j := by simp only [rd, Int.toNat_natCast, List.getD_eq_getElem?_getD, List.getElem?_eq_getElem hlt, Option.getD_some]; exact nums_at k0 n j hlt
    rw [if_pos (by rw [nums_len]; omega), if_pos (by omega), e3, if_pos rfl, w64r (x := k0 + j + 1) (by omega) (by omega), w64r (x := (j : Int) + 1) (by omega) (by omega), show k0 + (j : Int) + 1 = k0 + ((j + 1 : Nat) : Int) by omega]; rfl
theorem heldI (n : Nat) (k0 : Int) (h0 : 0 ≤ k0) (h1 : k0 + n ≤ 1152921504606846976) : Ev (fun q => laws_heldInt64S.f q (nums k0 n) k0) (k0 + n) := by
  have := heldI_loop n k0 h0 h1 n 0 (by omega)
  simpa [laws_heldInt64S.f] using this

/-! marks of rows of numbers -/
def numsS : Int → List (List Int) → List (List Int)
  | _, [] => []
  | k0, r :: l => nums k0 r.length :: numsS (k0 + r.length) l
theorem numsS_len : ∀ (k0 : Int) (l : List (List Int)), (numsS k0 l).length = l.length
  | _, [] => rfl
  | k0, r :: l => by simp [numsS, numsS_len]
theorem total_drop (l : List (List Int)) (j : Nat) (h : j < l.length) : total (l.drop j) = l[j].length + total (l.drop (j + 1)) := by
  rw [List.drop_eq_getElem_cons h]; simp only [total, List.map_cons, List.sum_cons]
theorem total_take (l : List (List Int)) (j : Nat) (h : j < l.length) : total (l.take (j + 1)) = total (l.take j) + l[j].length := by
  rw [List.take_succ_eq_append_getElem h]; simp only [total, List.map_append, List.map_cons, List.map_nil, List.sum_append, List.sum_cons, List.sum_nil]; omega
theorem total_take_le (l : List (List Int)) (j : Nat) : total (l.take j) ≤ total l := by
  have : total l = total (l.take j) + total (l.drop j) := by
    simp only [total]
    rw [← List.sum_append, ← List.map_append, List.take_append_drop]
  omega
theorem numsS_at : ∀ (k0 : Int) (l : List (List Int)) (j : Nat) (h : j < (numsS k0 l).length) (h' : j < l.length), (numsS k0 l)[j] = nums (k0 + total (l.take j)) l[j].length
  | _, [], j, h, h' => absurd h' (Nat.not_lt_zero _)
  | k0, r :: l, 0, h, h' => by simp [numsS, total]
  | k0, r :: l, j + 1, h, h' => by
    have := numsS_at (k0 + r.length) l j (by rw [numsS_len]; simpa using h') (by simpa using h')
    simp only [numsS, List.getElem_cons_succ, List.take_succ_cons]
    rw [this]
    congr 1
    simp only [total, List.map_cons, List.sum_cons]; omega
theorem markSS_loop (l : List (List Int)) (k0 : Int) (h0 : 0 ≤ k0) (h1 : k0 + total l ≤ 1152921504606846976) (hl : l.length ≤ 1048576) (m : Nat) : ∀ j : Nat, j + m = l.length →
    Ev (fun q => laws_markInt64SS.l0 q ((numsS k0 l).take j ++ l.drop j) (k0 + total (l.take j)) (j : Int)) (k0 + total l, numsS k0 l) := by
  induction m with
  | zero =>
    intro j hj
    refine Ev.step (f := fun _ => some (k0 + total l, numsS k0 l)) (fun q => ?_) (Ev.now _)
    simp only [laws_markInt64SS.l0]
    rw [if_neg (by simp [numsS_len]; omega), show j = l.length by omega, List.drop_length, List.append_nil, List.take_of_length_le (l := numsS k0 l) (i := l.length) (by rw [numsS_len]; omega), List.take_length]
  | succ m ih =>
    intro j hj
    have hlt : j < l.length := by omega
    have hlt2 : j < (numsS k0 l).length := by rw [numsS_len]; omega
    have ht := total_take l j hlt
    have hle := total_take_le l (j + 1)
    have e3 : rd_L1 ((numsS k0 l).take j ++ l.drop j) (j : Int) = l[j] := by
      simp only [rd_L1, Int.toNat_natCast, List.getD_eq_getElem?_getD]
      rw [List.getElem?_append_right (by simp; omega)]
      simp only [List.length_take, numsS_len, Nat.min_eq_left (Nat.le_of_lt hlt), Nat.sub_self, List.getElem?_drop, Nat.add_zero, List.getElem?_eq_getElem hlt, Option.getD_some]
    refine Ev.step (f := fun q => (laws_markInt64S.f q l[j] (k0 + total (l.take j))).bind fun p => laws_markInt64SS.l0 q (((numsS k0 l).take j ++ l.drop j).set j p.2) p.1 ((j + 1 : Nat) : Int)) (fun q => ?_) (Ev.bind (markI l[j] (k0 + total (l.take j)) (by omega) (by omega)) ?_)
    · simp only [laws_markInt64SS.l0]
      rw [if_pos (by simp [numsS_len]; omega), if_pos (by omega), e3, w64r (x := (j : Int) + 1) (by omega) (by omega), Int.toNat_natCast]; rfl
    · have := step_set (numsS k0 l) l (numsS_len _ _) j hlt2
      rw [numsS_at k0 l j hlt2 hlt] at this
      dsimp only
      rw [this, show k0 + (total (l.take j) : Int) + (l[j].length : Int) = k0 + (total (l.take (j + 1)) : Int) by omega]
      exact ih (j + 1) (by omega)
theorem markSS (l : List (List Int)) (k0 : Int) (h0 : 0 ≤ k0) (h1 : k0 + total l ≤ 1152921504606846976) (hl : l.length ≤ 1048576) : Ev (fun q => laws_markInt64SS.f q l k0) (k0 + total l, numsS k0 l) := by
  have := markSS_loop l k0 h0 h1 hl l.length 0 (by omega)
  simpa [total, laws_markInt64SS.f] using this

theorem heldSS_loop (l : List (List Int)) (k0 : Int) (h0 : 0 ≤ k0) (h1 : k0 + total l ≤ 1152921504606846976) (hl : l.length ≤ 1048576) (m : Nat) : ∀ j : Nat, j + m = l.length →
    Ev (fun q => laws_heldInt64SS.l0 q (numsS k0 l) (k0 + total (l.take j)) (j : Int)) (k0 + total l) := by
  induction m with
  | zero =>
    intro j hj
    refine Ev.step (f := fun _ => some (k0 + total l)) (fun q => ?_) (Ev.now _)
    simp only [laws_heldInt64SS.l0]
    rw [if_neg (by rw [numsS_len]; omega), show j = l.length by omega, List.take_length]
  | succ m ih =>
    intro j hj
    have hlt : j < l.length := by omega
    have hlt2 : j < (numsS k0 l).length := by rw [numsS_len]; omega
    have ht := total_take l j hlt
    have hle := total_take_le l (j + 1)
    have e3 : rd_L1 (numsS k0 l) (j : Int) = nums (k0 + total (l.take j)) l[j].length := by
      simp only [rd_L1, Int.toNat_natCast, List.getD_eq_getElem?_getD, List.getElem?_eq_getElem hlt2, Option.getD_some]; exact numsS_at k0 l j hlt2 hlt
    refine Ev.step (f := fun q => (laws_heldInt64S.f q (nums (k0 + total (l.take j)) l[j].length) (k0 + total (l.take j))).bind fun p => if p < 0 then some (-1) else laws_heldInt64SS.l0 q (numsS k0 l) p ((j + 1 : Nat) : Int)) (fun q => ?_) (Ev.bind (heldI l[j].length (k0 + total (l.take j)) (by omega) (by omega)) ?_)
    · simp only [laws_heldInt64SS.l0]
      rw [if_pos (by rw [numsS_len]; omega), if_pos (by omega), e3, w64r (x := (j : Int) + 1) (by omega) (by omega)]; rfl
    · refine Ev.congr (fun _ => if_neg (by omega)) ?_
      rw [show k0 + (total (l.take j) : Int) + (l[j].length : Int) = k0 + (total (l.take (j + 1)) : Int) by omega]
      exact ih (j + 1) (by omega)
theorem heldSS (l : List (List Int)) (k0 : Int) (h0 : 0 ≤ k0) (h1 : k0 + total l ≤ 1152921504606846976) (hl : l.length ≤ 1048576) : Ev (fun q => laws_heldInt64SS.f q (numsS k0 l) k0) (k0 + total l) := by
  have := heldSS_loop l k0 h0 h1 hl l.length 0 (by omega)
  simpa [total, laws_heldInt64SS.f] using this

theorem total_le (n : Nat) (l : List (List Int)) (h : ∀ r ∈ l, r.length ≤ n) : total l ≤ l.length * n := by
  induction l with
  | nil => simp [total]
  | cons a l ih =>
    have h1 := h a List.mem_cons_self
    have h2 := ih (fun r hr => h r (List.mem_cons_of_mem _ hr))
    simp only [total, List.map_cons, List.sum_cons, List.length_cons, Nat.add_mul, Nat.one_mul] at h2 ⊢
    omega

def both (e : Int) (a b : List (List Int)) : List (List Int) × Int := if Go.Proofs.YtmijbppapjcfkaaC.isPath e a = true then (if Go.Proofs.YtmijbppapjcfkaaC.isPath e b = true then (if Go.Proofs.YtmijbppapjcfkaaC.isPath e (a ++ b) = true then a ++ b else [], if Go.Proofs.YtmijbppapjcfkaaC.isPath e (a ++ b) = true then 0 else 3) else ([], 1)) else ([], 1)
theorem spec_is (e : Int) (a b : List (List Int)) (h1 : a.length ≤ 1048576) (h2 : ∀ r ∈ a, r.length ≤ 1048576) (h3 : b.length ≤ 1048576) (h4 : ∀ r ∈ b, r.length ≤ 1048576) : Ev (fun q => spec_JoinPaths.f q e a b) (both e a b) := by
  unfold spec_JoinPaths.f both
  refine Ev.bind (is_path e a (by omega) (fun r h => by have := h2 r h; omega)) ?_
  by_cases p : Go.Proofs.YtmijbppapjcfkaaC.isPath e a = true
  · obtain ⟨_, _, k1, _⟩ := path_facts p
    rw [if_pos p]
    simp only [p, if_true]
    refine Ev.bind (is_path e b (by omega) (fun r h => by have := h4 r h; omega)) ?_
    by_cases q : Go.Proofs.YtmijbppapjcfkaaC.isPath e b = true
    · obtain ⟨_, _, k2, _⟩ := path_facts q
      simp only [q, if_true]
      refine Ev.congr (fun _ => if_pos (by omega)) ?_
      exact told_is e (a ++ b) (by rw [List.length_append]; omega) (fun r hr => by
        rw [List.mem_append] at hr
        rcases hr with hr | hr
        · exact h2 r hr
        · exact h4 r hr)
    · simp only [q, if_false, Bool.false_eq_true]
      exact Ev.now _
  · rw [if_neg p]
    simp only [p, if_false, Bool.false_eq_true]
    exact Ev.now _
theorem impl_is (e : Int) (a b : List (List Int)) : Ev (fun _ => impl_JoinPaths.f e a b) (both e a b) := by
  refine Ev.congr (fun _ => ?_) (Ev.now (both e a b))
  rfl
theorem both_len (e : Int) (a b : List (List Int)) : (both e a b).1.length ≤ 12 ∧ ∀ r ∈ (both e a b).1, r.length ≤ 3 := by
  unfold both
  split
  · split
    · dsimp only
      split
      · rename_i c
        obtain ⟨e1, e2, h3, h4⟩ := path_facts c
        exact ⟨h3, fun r hr => by have := (h4 r hr).1; omega⟩
      · simp
    · simp
  · simp
theorem FnExactJoinPaths : laws_FnExactJoinPaths.Pure := by
  intro e a b _ ha hb
  obtain ⟨hal, har⟩ := ha
  obtain ⟨hbl, hbr⟩ := hb
  have har' : ∀ r ∈ a, r.length ≤ 9223372036854775807 := fun r h => (har r h).1
  have hbr' : ∀ r ∈ b, r.length ≤ 9223372036854775807 := fun r h => (hbr r h).1
  obtain ⟨y1, hs1, hc1⟩ := sz_any a 1048576 (by omega) (by omega) hal har'
  unfold laws_FnExactJoinPaths.f
  refine Ev.rounds (Ev.bind hs1 ?_)
  by_cases c : y1 < 0
  · simp only [c, if_true]; exact Ev.now _
  · simp only [c, if_false]
    have hy1 : y1 = 1048576 - a.length - total a := by omega
    obtain ⟨y2, hs2, hc2⟩ := sz_any b y1 (by omega) (by omega) hbl hbr'
    refine Ev.bind hs2 ?_
    by_cases c2 : y2 < 0
    · simp only [c2, if_true]; exact Ev.now _
    · simp only [c2, if_false]
      have h1 : a.length ≤ 1048576 := by omega
      have h2 : ∀ r ∈ a, r.length ≤ 1048576 := fun r h => by have := total_mem h; omega
      have h3 : b.length ≤ 1048576 := by omega
      have h4 : ∀ r ∈ b, r.length ≤ 1048576 := fun r h => by have := total_mem h; omega
      have hca := copy_rows a h1 h2
      have hcb := copy_rows b h3 h4
      have hlen := both_len e a b
      have hsp := spec_is e a b h1 h2 h3 h4
      have him := impl_is e a b
      generalize both e a b = R at hlen hsp him
      obtain ⟨R, rc⟩ := R
      dsimp only at hlen
      have hR1 : R.length ≤ 1048576 := by omega
      have hR2 : ∀ r ∈ R, r.length ≤ 1048576 := fun r h => by have := hlen.2 r h; omega
      have hR3 : total R ≤ 36 := Nat.le_trans (total_le 3 R hlen.2) (by omega)
      have heq := same_rows R hR1 hR2
      refine Ev.bind hca (Ev.bind hcb (Ev.bind hsp (Ev.bind hca (Ev.bind hcb (Ev.bind him ?_)))))
      dsimp only
      refine Ev.congr (fun _ => if_pos rfl) ?_
      refine Ev.bind heq ?_
      refine Ev.congr (fun _ => if_pos rfl) ?_
      refine Ev.bind hca (Ev.bind (same_rows a h1 h2) ?_)
      refine Ev.congr (fun _ => if_pos rfl) ?_
      refine Ev.bind hcb (Ev.bind (same_rows b h3 h4) ?_)
      refine Ev.congr (fun _ => if_pos rfl) ?_
      refine Ev.bind (markSS a 1 (by omega) (by omega) h1) ?_
      dsimp only
      refine Ev.congr (fun _ => if_pos (by omega)) ?_
      refine Ev.bind (markSS b (1 + total a) (by omega) (by omega) h3) ?_
      dsimp only
      refine Ev.congr (fun _ => if_pos (by omega)) ?_
      refine Ev.bind heq ?_
      refine Ev.congr (fun _ => if_pos rfl) ?_
      refine Ev.bind (markSS R 1 (by omega) (by omega) hR1) ?_
      dsimp only
      refine Ev.congr (fun _ => if_pos (by omega)) ?_
      refine Ev.bind (heldSS R 1 (by omega) (by omega) hR1) ?_
      refine Ev.congr (fun _ => if_pos ⟨by omega, rfl⟩) ?_
      refine Ev.bind hca (Ev.bind hcb (Ev.bind him ?_))
      dsimp only
      refine Ev.congr (fun _ => if_pos rfl) ?_
      refine Ev.bind heq ?_
      refine Ev.congr (fun _ => if_pos rfl) ?_
      refine Ev.bind (heldSS R 1 (by omega) (by omega) hR1) ?_
      refine Ev.congr (fun _ => if_pos ⟨by omega, rfl⟩) ?_
      exact Ev.now _


end Go.Proofs.Ytmijbppapjcfkaa.Pure
