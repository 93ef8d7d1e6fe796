/- FnExactIsMap: for all numbers and all lists of rows, the program's IsMap answers what the reference's answers, and turns nothing. No condition. -/
import Derived.Test.YtdpbfjmjbhmobaaQFnExactIsMapy
namespace Go.Proofs.Ytdpbfjmjbhmobaa.Pure
open Go.RowKit Go.Proofs.Ytdpbfjmjbhmobaa.PFnExactIsMap Go.Proofs.YtdpbfjmjbhmobaaW.PrintWords Go.Proofs.YtdpbfjmjbhmobaaW.PrintLast
set_option linter.unusedSimpArgs false
set_option linter.unusedVariables false

/-! slices of slices of numbers: how long, copied, compared -/
theorem w64r {x : Int} (h0 : -9223372036854775808 ≤ x) (h1 : x ≤ 9223372036854775807) : wrap64 x = x := by unfold wrap64; omega
def total (l : List (List Int)) : Nat := (l.map List.length).sum
theorem szRow (l : List Int) (a : Int) (hl : l.length ≤ 9223372036854775807) (ha : 0 ≤ a) (ha1 : a ≤ 1048576) : laws_szInt64S.f l a = some (if a - l.length < 0 then -1 else a - l.length) := by
  unfold laws_szInt64S.f
  rw [w64r (by omega) (by omega)]
  split <;> rfl
theorem szRows (l : List (List Int)) (hl : l.length ≤ 9223372036854775807) (hr : ∀ r ∈ l, r.length ≤ 9223372036854775807) (m : Nat) : ∀ (j : Nat) (a : Int), j + m = l.length → 0 ≤ a → a ≤ 1048576 →
    ∃ r : Int, Ev (fun k => laws_szInt64SS.l0 k l a (j : Int)) r ∧ (r < 0 ∨ r = a - total (l.drop j)) := by
  induction m with
  | zero =>
    intro j a hj ha ha1
    refine ⟨a, Ev.step (f := fun _ => some a) (fun k => ?_) (Ev.now _), .inr ?_⟩
    · simp only [laws_szInt64SS.l0]; rw [if_neg (by omega)]
    · rw [List.drop_eq_nil_of_le (by omega)]; simp [total]
  | succ m ih =>
    intro j a hj ha ha1
    have hlt : j < l.length := by omega
    have e3 : rd_L1 l (j : Int) = l[j] := by simp [rd_L1, List.getElem?_eq_getElem hlt]
    have hrow := szRow l[j] a (hr _ (List.getElem_mem hlt)) ha ha1
    have hd : total (l.drop j) = l[j].length + total (l.drop (j + 1)) := by
      rw [List.drop_eq_getElem_cons hlt]; simp only [total, List.map_cons, List.sum_cons]
    by_cases c : a - l[j].length < 0
    · refine ⟨-1, Ev.step (f := fun _ => some (-1)) (fun k => ?_) (Ev.now _), .inl (by omega)⟩
      simp only [laws_szInt64SS.l0]
      rw [if_pos (by omega), if_pos (by omega), e3, hrow, if_pos c]
      simp
    · obtain ⟨r, h1, h2⟩ := ih (j + 1) (a - l[j].length) (by omega) (by omega) (by omega)
      refine ⟨r, Ev.step (fun k => ?_) h1, ?_⟩
      · simp only [laws_szInt64SS.l0]
        rw [if_pos (by omega), if_pos (by omega), e3, hrow, if_neg c]
        simp only [Option.bind_some]
        rw [if_neg c, w64r (x := (j : Int) + 1) (by omega) (by omega)]
        rfl
      · rcases h2 with h2 | h2
        · exact .inl h2
        · right; rw [h2, hd]; omega
/-- The size check: it ends; and where it does not turn the input away the rows are short. -/
theorem sz_both (l : List (List Int)) (hl : l.length ≤ 9223372036854775807) (hr : ∀ r ∈ l, r.length ≤ 9223372036854775807) : ∃ r : Int, Ev (fun k => laws_szInt64SS.f k l 1048576) r ∧ (r < 0 ∨ l.length + total l ≤ 1048576) := by
  by_cases c : wrap64 (1048576 - (l.length : Int)) < 0
  · exact ⟨-1, Ev.congr (g := fun k => laws_szInt64SS.f k l 1048576) (f := fun _ => some (-1)) (fun k => by unfold laws_szInt64SS.f; rw [if_pos c]) (Ev.now _), .inl (by omega)⟩
  · have e : wrap64 (1048576 - (l.length : Int)) = 1048576 - l.length := w64r (by omega) (by omega)
    rw [e] at c
    obtain ⟨r, h1, h2⟩ := szRows l hl hr l.length 0 (1048576 - l.length) (by omega) (by omega) (by omega)
    refine ⟨r, Ev.congr (fun k => ?_) h1, ?_⟩
    · show laws_szInt64SS.f k l 1048576 = _
      unfold laws_szInt64SS.f; rw [e, if_neg c]; rfl
    · rcases h2 with h2 | h2
      · exact .inl h2
      · rw [List.drop_zero] at h2
        by_cases h : r < 0
        · exact .inl h
        · right; omega
theorem total_mem {l : List (List Int)} {r : List Int} (h : r ∈ l) : r.length ≤ total l := by
  induction l with
  | nil => simp at h
  | cons a l ih =>
    simp only [total, List.map_cons, List.sum_cons]
    rcases List.mem_cons.1 h with rfl | h
    · omega
    · have := ih h; simp only [total] at this; omega
theorem copyRow (l : List Int) (hl : l.length ≤ 1048576) (m : Nat) : ∀ j : Nat, j + m = l.length → Ev (fun k => laws_toInt64S.l0 k l (l.take j ++ List.replicate m 0) (j : Int)) l := by
  induction m with
  | zero =>
    intro j hj
    refine Ev.step (f := fun _ => some l) (fun k => ?_) (Ev.now _)
    simp only [laws_toInt64S.l0]
    rw [if_neg (by omega), List.take_of_length_le (by omega)]; simp
  | succ m ih =>
    intro j hj
    have hlt : j < l.length := by omega
    refine Ev.step (fun k => ?_) (ih (j + 1) (by omega))
    simp only [laws_toInt64S.l0]
    have hlen : (l.take j ++ List.replicate (m + 1) 0).length = l.length := by simp; omega
    rw [if_pos (by omega), if_pos (by omega), if_pos (by omega), w64r (x := (j : Int) + 1) (by omega) (by omega)]
    have e : (l.take j ++ List.replicate (m + 1) 0).set (j : Int).toNat (rd l (j : Int)) = l.take (j + 1) ++ List.replicate m 0 := by
      rw [Int.toNat_natCast, List.set_append, if_neg (by simp; omega)]
      simp only [List.length_take, Nat.min_eq_left (Nat.le_of_lt hlt), Nat.sub_self, List.replicate_succ, List.set_cons_zero]
      have e5 : rd l (j : Int) = l[j] := by simp [rd, List.getElem?_eq_getElem hlt]
      rw [e5, List.take_succ_eq_append_getElem hlt, List.append_assoc]; rfl
    rw [e]; rfl
theorem copy_row (l : List Int) (hl : l.length ≤ 1048576) : Ev (fun k => laws_toInt64S.f k l) l := by
  refine Ev.congr (fun k => ?_) (copyRow l hl l.length 0 (by omega))
  unfold laws_toInt64S.f
  rw [if_pos (by omega), if_pos (by omega)]
  simp
theorem copyRows (l : List (List Int)) (hl : l.length ≤ 1048576) (hr : ∀ r ∈ l, r.length ≤ 1048576) (m : Nat) : ∀ j : Nat, j + m = l.length → Ev (fun k => laws_toInt64SS.l0 k l (l.take j ++ List.replicate m []) (j : Int)) l := by
  induction m with
  | zero =>
    intro j hj
    refine Ev.step (f := fun _ => some l) (fun k => ?_) (Ev.now _)
    simp only [laws_toInt64SS.l0]
    rw [if_neg (by omega), List.take_of_length_le (by omega)]; simp
  | succ m ih =>
    intro j hj
    have hlt : j < l.length := by omega
    have e3 : rd_L1 l (j : Int) = l[j] := by simp [rd_L1, List.getElem?_eq_getElem hlt]
    refine Ev.step (f := fun k => (laws_toInt64S.f k l[j]).bind fun t => laws_toInt64SS.l0 k l (l.take j ++ t :: List.replicate m []) ((j + 1 : Nat) : Int)) (fun k => ?_) (Ev.bind (copy_row l[j] (hr _ (List.getElem_mem hlt))) ?_)
    · simp only [laws_toInt64SS.l0]
      have hlen : (l.take j ++ List.replicate (m + 1) []).length = l.length := by simp; omega
      rw [if_pos (by omega), if_pos (by omega), e3, w64r (x := (j : Int) + 1) (by omega) (by omega)]
      congr 1; funext t
      rw [if_pos (by omega), Int.toNat_natCast, List.set_append, if_neg (by simp; omega)]
      simp only [List.length_take, Nat.min_eq_left (Nat.le_of_lt hlt), Nat.sub_self, List.replicate_succ, List.set_cons_zero]
      rfl
    · have := ih (j + 1) (by omega)
      rw [List.take_succ_eq_append_getElem hlt, List.append_assoc] at this
      exact this
theorem copy_rows (l : List (List Int)) (hl : l.length ≤ 1048576) (hr : ∀ r ∈ l, r.length ≤ 1048576) : Ev (fun k => laws_toInt64SS.f k l) l := by
  refine Ev.congr (fun k => ?_) (copyRows l hl hr l.length 0 (by omega))
  unfold laws_toInt64SS.f
  rw [if_pos (by omega), if_pos (by omega)]
  simp
theorem sameRow (l : List Int) (hl : l.length ≤ 1048576) (m : Nat) : ∀ j : Nat, j + m = l.length → Ev (fun k => laws_eqInt64S.l0 k l l (j : Int)) true := by
  induction m with
  | zero =>
    intro j hj
    refine Ev.step (f := fun _ => some true) (fun k => ?_) (Ev.now _)
    simp only [laws_eqInt64S.l0]; rw [if_neg (by omega)]
  | succ m ih =>
    intro j hj
    refine Ev.step (fun k => ?_) (ih (j + 1) (by omega))
    simp only [laws_eqInt64S.l0]
    rw [if_pos (by omega), if_pos (by omega), if_pos (by omega), w64r (x := (j : Int) + 1) (by omega) (by omega)]; simp only [if_true]; rfl
theorem same_row (l : List Int) (hl : l.length ≤ 1048576) : Ev (fun k => laws_eqInt64S.f k l l) true := by
  refine Ev.congr (fun k => ?_) (sameRow l hl l.length 0 (by omega))
  unfold laws_eqInt64S.f; rw [if_pos rfl]; rfl
theorem sameRows (l : List (List Int)) (hl : l.length ≤ 1048576) (hr : ∀ r ∈ l, r.length ≤ 1048576) (m : Nat) : ∀ j : Nat, j + m = l.length → Ev (fun k => laws_eqInt64SS.l0 k l l (j : Int)) true := by
  induction m with
  | zero =>
    intro j hj
    refine Ev.step (f := fun _ => some true) (fun k => ?_) (Ev.now _)
    simp only [laws_eqInt64SS.l0]; rw [if_neg (by omega)]
  | succ m ih =>
    intro j hj
    have hlt : j < l.length := by omega
    have e3 : rd_L1 l (j : Int) = l[j] := by simp [rd_L1, List.getElem?_eq_getElem hlt]
    refine Ev.step (f := fun k => (laws_eqInt64S.f k l[j] l[j]).bind fun t => if t = true then laws_eqInt64SS.l0 k l l ((j + 1 : Nat) : Int) else some false) (fun k => ?_) (Ev.bind (same_row l[j] (hr _ (List.getElem_mem hlt))) ?_)
    · simp only [laws_eqInt64SS.l0]
      rw [if_pos (by omega), if_pos (by omega), if_pos (by omega), e3, w64r (x := (j : Int) + 1) (by omega) (by omega)]; rfl
    · simp only [if_true]
      exact ih (j + 1) (by omega)
theorem same_rows (l : List (List Int)) (hl : l.length ≤ 1048576) (hr : ∀ r ∈ l, r.length ≤ 1048576) : Ev (fun k => laws_eqInt64SS.f k l l) true := by
  refine Ev.congr (fun k => ?_) (sameRows l hl hr l.length 0 (by omega))
  unfold laws_eqInt64SS.f; rw [if_pos rfl]; rfl

theorem in_is (a b c : Int) : spec_l01In.f a b c = some (decide (b ≤ a) && decide (a ≤ c)) := by
  unfold spec_l01In.f
  by_cases h : a ≥ b
  · have h' : b ≤ a := h
    rw [if_pos h, decide_eq_true h', Bool.true_and]
  · have h' : ¬ b ≤ a := h
    rw [if_neg h, decide_eq_false h', Bool.false_and]
theorem mapRow (e : Int) (l : List (List Int)) (i : Int) (row : List Int) (hi0 : 0 ≤ i) (hi1 : i < l.length) (hrow : rd_L1 l i = row) (hl : row.length ≤ 9223372036854775807) (b : Bool) (m : Nat) : ∀ j : Nat, j + m = row.length →
    Ev (fun k => spec_l07Is.l0 k e l (wrap64 (i + 1))) b →
    Ev (fun k => spec_l07Is.l1 k e l i (j : Int)) ((row.drop j).all (fun x => decide (-100 ≤ x) && decide (x ≤ 100)) && b) := by
  induction m with
  | zero =>
    intro j hj h
    rw [List.drop_eq_nil_of_le (by omega)]
    refine Ev.step (fun k => ?_) h
    simp only [spec_l07Is.l1]
    rw [if_pos hi0, if_pos hi1, hrow, if_neg (by omega)]
  | succ m ih =>
    intro j hj h
    have hlt : j < row.length := by omega
    have e3 : rd row (j : Int) = row[j] := by simp [rd, List.getElem?_eq_getElem hlt]
    rw [List.drop_eq_getElem_cons hlt, List.all_cons]
    by_cases c : (decide (-100 ≤ row[j]) && decide (row[j] ≤ 100)) = true
    · rw [c, Bool.true_and]
      refine Ev.step (fun k => ?_) (ih (j + 1) (by omega) h)
      simp only [spec_l07Is.l1]
      rw [if_pos hi0, if_pos hi1, hrow, if_pos (by omega), if_pos (by omega), e3, in_is, c, w64r (x := (j : Int) + 1) (by omega) (by omega)]
      simp
    · have c' : (decide (-100 ≤ row[j]) && decide (row[j] ≤ 100)) = false := by simpa using c
      rw [c', Bool.false_and, Bool.false_and]
      refine Ev.step (f := fun _ => some false) (fun k => ?_) (Ev.now _)
      simp only [spec_l07Is.l1]
      rw [if_pos hi0, if_pos hi1, hrow, if_pos (by omega), if_pos (by omega), e3, in_is, c']
      simp
def rowS (e : Int) (row : List Int) : Bool := decide ((row.length : Int) = e) && row.all (fun x => decide (-100 ≤ x) && decide (x ≤ 100))
theorem mapRows (e : Int) (l : List (List Int)) (hl : l.length ≤ 9223372036854775806) (hr : ∀ r ∈ l, r.length ≤ 9223372036854775807) (m : Nat) : ∀ j : Nat, j + m = l.length →
    Ev (fun k => spec_l07Is.l0 k e l (j : Int)) ((l.drop j).all (rowS e)) := by
  induction m with
  | zero =>
    intro j hj
    rw [List.drop_eq_nil_of_le (by omega)]
    refine Ev.step (f := fun _ => some true) (fun k => ?_) (Ev.now _)
    simp only [spec_l07Is.l0]; rw [if_neg (by omega)]
  | succ m ih =>
    intro j hj
    have hlt : j < l.length := by omega
    have e3 : rd_L1 l (j : Int) = l[j] := by simp [rd_L1, List.getElem?_eq_getElem hlt]
    have e4 : wrap64 ((j : Int) + 1) = ((j + 1 : Nat) : Int) := w64r (x := (j : Int) + 1) (by omega) (by omega)
    rw [List.drop_eq_getElem_cons hlt, List.all_cons]
    by_cases c : (l[j].length : Int) = e
    · have := mapRow e l (j : Int) l[j] (by omega) (by omega) e3 (hr _ (List.getElem_mem hlt)) _ l[j].length 0 (by omega) (by rw [e4]; exact ih (j + 1) (by omega))
      rw [List.drop_zero] at this
      have hh : rowS e l[j] = l[j].all (fun x => decide (-100 ≤ x) && decide (x ≤ 100)) := by simp [rowS, c]
      rw [hh]
      refine Ev.step (fun k => ?_) this
      simp only [spec_l07Is.l0]
      rw [if_pos (by omega), if_pos (by omega), e3, if_pos c]; rfl
    · have hh : rowS e l[j] = false := by simp [rowS, c]
      rw [hh, Bool.false_and]
      refine Ev.step (f := fun _ => some false) (fun k => ?_) (Ev.now _)
      simp only [spec_l07Is.l0]
      rw [if_pos (by omega), if_pos (by omega), e3, if_neg c]
theorem rowS_same (e : Int) (row : List Int) : rowS e row = Go.Proofs.YtdpbfjmjbhmobaaC.rowOk e 100 row := by
  unfold rowS Go.Proofs.YtdpbfjmjbhmobaaC.rowOk Go.Proofs.YtdpbfjmjbhmobaaC.allUpTo
  rw [show wrap64 (-100) = -100 from by unfold wrap64; omega]
/-- The reference's test for a map. -/
theorem is_map (d e : Int) (l : List (List Int)) (hl : l.length ≤ 9223372036854775806) (hr : ∀ r ∈ l, r.length ≤ 9223372036854775807) : Ev (fun k => spec_l07Is.f k d e l) (Go.Proofs.YtdpbfjmjbhmobaaC.isMap d e l) := by
  have hA : Ev (fun k => spec_l07Is.l0 k e l 0) (l.all (rowS e)) := by have := mapRows e l hl hr l.length 0 (by omega); rwa [List.drop_zero] at this
  have hall : l.all (rowS e) = l.all (Go.Proofs.YtdpbfjmjbhmobaaC.rowOk e 100) := by congr 1; funext r; exact rowS_same e r
  unfold Go.Proofs.YtdpbfjmjbhmobaaC.isMap Go.Proofs.YtdpbfjmjbhmobaaC.letters
  by_cases c1 : (decide (1 ≤ d) && decide (d ≤ 3)) = true
  · by_cases c2 : (decide (1 ≤ e) && decide (e ≤ 3)) = true
    · by_cases c3 : (l.length : Int) = d
      · rw [c1, c2, decide_eq_true c3, ← hall]
        refine Ev.congr (f := fun k => spec_l07Is.j0 k e l false) (fun k => ?_) (Ev.step (fun k => ?_) hA)
        · unfold spec_l07Is.f
          rw [in_is, c1, in_is, c2, show ((l.length : Int) != d) = false from by rw [bne_eq_false_iff_eq]; exact c3]
          simp
        · simp [spec_l07Is.j0]
      · rw [c1, c2, decide_eq_false c3]
        refine Ev.congr (f := fun k => spec_l07Is.j0 k e l true) (fun k => ?_) (Ev.step (f := fun _ => some false) (fun k => ?_) (Ev.now _))
        · unfold spec_l07Is.f
          rw [in_is, c1, in_is, c2, show ((l.length : Int) != d) = true from by rw [bne_iff_ne]; exact c3]
          simp
        · simp [spec_l07Is.j0]
    · have c2' : (decide (1 ≤ e) && decide (e ≤ 3)) = false := by simpa using c2
      rw [c1, c2']
      refine Ev.congr (f := fun k => spec_l07Is.j0 k e l true) (fun k => ?_) (Ev.step (f := fun _ => some false) (fun k => ?_) (Ev.now _))
      · unfold spec_l07Is.f
        rw [in_is, c1, in_is, c2']
        simp
      · simp [spec_l07Is.j0]
  · have c1' : (decide (1 ≤ d) && decide (d ≤ 3)) = false := by simpa using c1
    rw [c1']
    refine Ev.congr (f := fun k => spec_l07Is.j0 k e l true) (fun k => ?_) (Ev.step (f := fun _ => some false) (fun k => ?_) (Ev.now _))
    · unfold spec_l07Is.f
      rw [in_is, c1']
      simp
    · simp [spec_l07Is.j0]

theorem FnExactIsMap : laws_FnExactIsMap.Pure := by
  intro d e l _ _ hl
  obtain ⟨hl, hr⟩ := hl
  have hr' : ∀ r ∈ l, r.length ≤ 9223372036854775807 := fun r h => (hr r h).1
  obtain ⟨r, hs, hc⟩ := sz_both l hl hr'
  unfold laws_FnExactIsMap.f
  refine Ev.rounds (Ev.bind hs ?_)
  by_cases c : r < 0
  · simp only [c, if_true]; exact Ev.now _
  · simp only [c, if_false]
    have ht : l.length + total l ≤ 1048576 := by rcases hc with hc | hc; exact absurd hc c; exact hc
    have h1 : l.length ≤ 1048576 := by omega
    have h2 : ∀ r ∈ l, r.length ≤ 1048576 := fun r h => by have := total_mem h; omega
    have hcp := copy_rows l h1 h2
    have hm := is_map d e l (by omega) hr'
    refine Ev.bind hcp (Ev.bind (a := Go.Proofs.YtdpbfjmjbhmobaaC.isMap d e l) ?_ (Ev.bind hcp ?_))
    · exact Ev.congr (g := fun k => spec_IsMap.f k d e l) (fun k => by unfold spec_IsMap.f; simp) hm
    · refine Ev.bind (a := Go.Proofs.YtdpbfjmjbhmobaaC.isMap d e l) (Ev.congr (f := fun _ => some _) (fun k => rfl) (Ev.now _)) ?_
      simp only [bne_self_eq_false, if_false, Bool.false_eq_true]
      refine Ev.bind hcp (Ev.bind (same_rows l h1 h2) ?_)
      simp only [if_true]; exact Ev.now _

end Go.Proofs.Ytdpbfjmjbhmobaa.Pure
