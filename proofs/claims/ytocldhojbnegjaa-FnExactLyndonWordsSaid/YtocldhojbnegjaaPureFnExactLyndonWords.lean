/- FnExactLyndonWords: for all pairs of numbers, the program's LyndonWords answers what the reference's answers, in new memory. No condition. -/
import Derived.Test.YtocldhojbnegjaaQFnExactLyndonWordsx4
namespace Go.Proofs.Ytocldhojbnegjaa.Pure
open Go.RowKit Go.Proofs.Ytocldhojbnegjaa.PFnExactLyndonWords Go.Proofs.YtocldhojbnegjaaW.PrintWords Go.Proofs.YtocldhojbnegjaaW.PrintLast
set_option linter.unusedSimpArgs false
set_option linter.unusedVariables false

theorem w64 {x : Int} (h0 : -9223372036854775808 ≤ x) (h1 : x ≤ 9223372036854775807) : wrap64 x = x := by unfold wrap64; omega
theorem lyn_same : ∀ (k : Nat) (s : ByteArray) (i : Int), impl_isLyndon.l0 k s i = spec_l05Lyndon.l0 k s i := by
  intro k
  induction k with
  | zero => intro s i; rfl
  | succ k ih =>
    intro s i
    simp only [spec_l05Lyndon.l0, impl_isLyndon.l0, ih]
    have e : (s.toList != ([] : List UInt8)) = decide ((s.size : Int) > 0) := by
      rw [ByteArray.toList_eq, Bool.eq_iff_iff]
      simp only [bne_iff_ne, ne_eq, decide_eq_true_eq]
      have : s.size = s.data.toList.length := by simp
      rw [this]
      cases s.data.toList <;> simp
    rw [e]

theorem lyn_ends (s : ByteArray) (hn : s.size ≤ 140737488351232) (n : Nat) : ∀ (k : Nat) (i : Int), 0 ≤ i → (s.size : Int) - i ≤ n → n < k →
    ∃ b, spec_l05Lyndon.l0 k s i = some b := by
  induction n with
  | zero =>
    intro k i h0 hd hk
    obtain ⟨k, rfl⟩ : ∃ m, k = m + 1 := ⟨k - 1, by omega⟩
    simp only [spec_l05Lyndon.l0]; rw [if_neg (by omega)]; exact ⟨_, rfl⟩
  | succ n ih =>
    intro k i h0 hd hk
    obtain ⟨k, rfl⟩ : ∃ m, k = m + 1 := ⟨k - 1, by omega⟩
    simp only [spec_l05Lyndon.l0]
    by_cases c : i < (s.size : Int)
    · rw [if_pos c, if_pos h0, if_pos (by omega)]
      split
      · rw [w64 (by omega) (by omega)]
        exact ih k (i + 1) (by omega) (by omega) (by omega)
      · exact ⟨_, rfl⟩
    · rw [if_neg c]; exact ⟨_, rfl⟩

/-- Both tell a Lyndon word alike. -/
theorem lyndon_same (s : ByteArray) (hn : s.size ≤ 140737488351232) : ∃ (K : Nat) (b : Bool), ∀ k, K ≤ k → spec_l05Lyndon.f k s = some b ∧ impl_isLyndon.f k s = some b := by
  obtain ⟨b, hb⟩ := lyn_ends s hn s.size (s.size + 1) 1 (by omega) (by omega) (by omega)
  refine ⟨s.size + 1, b, fun k hk => ?_⟩
  have hb' : spec_l05Lyndon.l0 k s 1 = some b := at_rounds (fun k => spec_l05Lyndon.mono_l k _ _) hk hb
  exact ⟨hb', by unfold impl_isLyndon.f; rw [lyn_same]; exact hb'⟩

/-! words -/
def ltr (i : Nat) : ByteArray := strOfNums [((48 + i : Nat) : Int)]
theorem ltr_size (i : Nat) : (ltr i).size = 1 := strOfNums_size _
def nextW (d : Nat) (ws : List ByteArray) : List ByteArray := ws.flatMap (fun w => (List.range d).map (fun i => w ++ ltr i))
def wordsL (d : Nat) : Nat → List ByteArray
  | 0 => [(⟨#[]⟩ : ByteArray)]
  | n + 1 => nextW d (wordsL d n)
theorem nextW_size {d m : Nat} {ws : List ByteArray} (h : ∀ w ∈ ws, w.size = m) : ∀ w ∈ nextW d ws, w.size = m + 1 := by
  intro w hw
  simp only [nextW, List.mem_flatMap, List.mem_map] at hw
  obtain ⟨v, hv, i, _, rfl⟩ := hw
  rw [ByteArray.size_append, h v hv, ltr_size]
theorem wordsL_size (d : Nat) : ∀ n, ∀ w ∈ wordsL d n, w.size = n
  | 0 => by intro w hw; simp [wordsL] at hw; subst hw; rfl
  | n + 1 => nextW_size (wordsL_size d n)
theorem nextW_length (d : Nat) (ws : List ByteArray) : (nextW d ws).length = ws.length * d := by
  induction ws with
  | nil => simp [nextW]
  | cons w ws ih => simp only [nextW, List.flatMap_cons, List.length_append, List.length_map, List.length_range] at ih ⊢; rw [ih, List.length_cons, Nat.add_mul]; omega
theorem wordsL_length (d : Nat) : ∀ n, (wordsL d n).length = d ^ n
  | 0 => rfl
  | n + 1 => by simp only [wordsL]; rw [nextW_length, wordsL_length d n, Nat.pow_succ]
theorem wordsL_bound {d n : Nat} (hd : d ≤ 3) (hn : n ≤ 20) : (wordsL d n).length ≤ 3486784401 := by
  rw [wordsL_length]
  calc d ^ n ≤ 3 ^ n := Nat.pow_le_pow_left hd n
    _ ≤ 3 ^ 20 := Nat.pow_le_pow_right (by omega) hn
    _ = 3486784401 := by decide

theorem sw2 (d : Nat) (hd : d ≤ 3) (x1 : Int) (ws : List ByteArray) (hws : ∀ w ∈ ws, w.size ≤ 20) (j : Nat) (hj : j < ws.length) (r : List ByteArray) (m : Nat) : ∀ (i : Nat) (acc : List ByteArray), i + m = d →
    acc.length + m ≤ 8796093022208 →
    Ev (fun k => spec_l01Words.l1 k (d : Int) x1 ws (acc ++ (List.range' i m).map (fun q => ws.getD j ByteArray.empty ++ ltr q)) (wrap64 ((j : Int) + 1))) r →
    Ev (fun k => spec_l01Words.l2 k (d : Int) x1 ws acc (j : Int) (i : Int)) r := by
  induction m with
  | zero =>
    intro i acc hi _ h
    refine Ev.step (fun k => ?_) h
    simp only [spec_l01Words.l2]
    rw [if_neg (by omega)]
    simp
  | succ m ih =>
    intro i acc hi hb h
    have hw : (ws.getD j ByteArray.empty).size ≤ 20 := by
      rw [List.getD_eq_getElem?_getD, List.getElem?_eq_getElem hj]
      exact hws _ (List.getElem_mem hj)
    refine Ev.step (fun k => ?_) (ih (i + 1) (acc ++ [ws.getD j ByteArray.empty ++ ltr i]) (by omega) (by simp; omega) ?_)
    · simp only [spec_l01Words.l2]
      have e1 : wrap64 (48 + (i : Int)) % 256 = ((48 + i : Nat) : Int) := by unfold wrap64; omega
      have e2 : wrap64 ((i : Int) + 1) = ((i + 1 : Nat) : Int) := by unfold wrap64; omega
      rw [if_pos (by omega), if_pos (by omega), if_pos (by omega)]
      simp only [Option.bind_some, e1, e2]
      have e3 : rdOf ByteArray.empty ws (j : Int) = ws.getD j ByteArray.empty := by simp [rdOf]
      rw [e3]
      have := ltr_size i
      rw [if_pos (by show _ + (ltr i).size ≤ _; omega), if_pos (by omega)]
      rfl
    · rw [List.append_assoc, List.range'_succ] at *
      exact h
theorem sw1 (d : Nat) (hd : d ≤ 3) (x1 : Int) (ws : List ByteArray) (hws : ∀ w ∈ ws, w.size ≤ 20) (hl : ws.length ≤ 3486784401) (r : List ByteArray) (m : Nat) : ∀ (j : Nat) (acc : List ByteArray), j + m = ws.length →
    acc.length + m * d ≤ 8796093022208 →
    Ev (fun k => spec_l01Words.l0 k (d : Int) (wrap64 (x1 - 1)) (acc ++ nextW d (ws.drop j))) r →
    Ev (fun k => spec_l01Words.l1 k (d : Int) x1 ws acc (j : Int)) r := by
  induction m with
  | zero =>
    intro j acc hj _ h
    refine Ev.step (fun k => ?_) h
    simp only [spec_l01Words.l1]
    rw [if_neg (by omega), List.drop_eq_nil_of_le (by omega)]
    simp [nextW]
  | succ m ih =>
    intro j acc hj hb h
    have hlt : j < ws.length := by omega
    have e2 : wrap64 ((j : Int) + 1) = ((j + 1 : Nat) : Int) := by unfold wrap64; omega
    rw [Nat.add_mul] at hb
    have h2 := sw2 d hd x1 ws hws j hlt r d 0 acc (by omega) (by omega) (by
      rw [e2]
      refine ih (j + 1) _ (by omega) (by simp; omega) ?_
      rw [List.append_assoc]
      have : List.map (fun q => ws.getD j ByteArray.empty ++ ltr q) (List.range' 0 d) ++ nextW d (ws.drop (j + 1)) = nextW d (ws.drop j) := by
        rw [List.drop_eq_getElem_cons hlt]
        simp only [nextW, List.flatMap_cons, List.range_eq_range']
        rw [List.getD_eq_getElem?_getD, List.getElem?_eq_getElem hlt]; rfl
      rw [this]
      exact h)
    refine Ev.step (fun k => ?_) h2
    simp only [spec_l01Words.l1]
    rw [if_pos (by omega)]
    rfl
theorem sw0 (d : Nat) (hd : d ≤ 3) (n : Nat) : ∀ m : Nat, m + n ≤ 20 → Ev (fun k => spec_l01Words.l0 k (d : Int) (n : Int) (wordsL d m)) (wordsL d (m + n)) := by
  induction n with
  | zero =>
    intro m _
    refine Ev.step (f := fun _ => some (wordsL d m)) (fun k => ?_) (Ev.now _)
    simp only [spec_l01Words.l0]
    rw [if_neg (by omega)]
  | succ n ih =>
    intro m hm
    have hb := wordsL_bound (d := d) (n := m) hd (by omega)
    have h1 := sw1 d hd ((n + 1 : Nat) : Int) (wordsL d m) (fun w hw => by rw [wordsL_size d m w hw]; omega) hb (wordsL d (m + (n + 1))) (wordsL d m).length 0 [] (by omega)
      (by have : (wordsL d m).length * d ≤ (wordsL d m).length * 3 := Nat.mul_le_mul_left _ hd
          simp; omega) (by
      have e : wrap64 (((n + 1 : Nat) : Int) - 1) = (n : Int) := by unfold wrap64; omega
      rw [e]
      have := ih (m + 1) (by omega)
      simp only [List.nil_append, List.drop_zero]
      rw [show m + 1 + n = m + (n + 1) by omega] at this
      exact this)
    refine Ev.step (fun k => ?_) h1
    simp only [spec_l01Words.l0]
    rw [if_pos (by omega)]
    rfl
/-- The reference's words. -/
theorem spec_words (d n : Nat) (hd : d ≤ 3) (hn : n ≤ 20) : Ev (fun k => spec_l01Words.f k (d : Int) (n : Int)) (wordsL d n) := by
  have := sw0 d hd n 0 (by omega)
  rw [Nat.zero_add] at this
  exact this

theorem letter_is (i : Nat) (h : i < 100) : impl_letter.f (i : Int) = some (ltr i) := by
  unfold impl_letter.f ltr
  rw [show (48 + (i : Int) % 256) % 256 = ((48 + i : Nat) : Int) by omega]
theorem iw2 (d : Nat) (hd : d ≤ 3) (x11 x12 : Int) (w : ByteArray) (hw : w.size ≤ 20) (ws : List ByteArray) (x15 x16 : Int) (r : List ByteArray) (m : Nat) : ∀ (i : Nat) (acc : List ByteArray), i + m = d →
    acc.length + m ≤ 8796093022208 →
    Ev (fun k => impl_words.l1 k (d : Int) (acc ++ (List.range' i m).map (fun q => w ++ ltr q)) x11 x12 ws x15 (wrap64 (x16 + 1))) r →
    Ev (fun k => impl_words.l2 k (d : Int) acc w x11 x12 ws x15 x16 (d : Int) (i : Int)) r := by
  induction m with
  | zero =>
    intro i acc hi _ h
    refine Ev.step (fun k => ?_) h
    simp only [impl_words.l2]
    rw [if_neg (by omega)]
    simp
  | succ m ih =>
    intro i acc hi hb h
    refine Ev.step (fun k => ?_) (ih (i + 1) (acc ++ [w ++ ltr i]) (by omega) (by simp; omega) ?_)
    · simp only [impl_words.l2]
      have e2 : wrap64 ((i : Int) + 1) = ((i + 1 : Nat) : Int) := by unfold wrap64; omega
      have := ltr_size i
      rw [if_pos (by omega), letter_is i (by omega)]
      simp only [Option.bind_some, e2]
      rw [if_pos (by omega), if_pos (by omega)]
    · rw [List.append_assoc, List.range'_succ] at *
      exact h
theorem iw1 (d : Nat) (hd : d ≤ 3) (x11 x12 : Int) (ws : List ByteArray) (hws : ∀ w ∈ ws, w.size ≤ 20) (hl : ws.length ≤ 3486784401) (r : List ByteArray) (m : Nat) : ∀ (j : Nat) (acc : List ByteArray), j + m = ws.length →
    acc.length + m * d ≤ 8796093022208 →
    Ev (fun k => impl_words.l0 k (d : Int) (acc ++ nextW d (ws.drop j)) x11 (wrap64 (x12 + 1))) r →
    Ev (fun k => impl_words.l1 k (d : Int) acc x11 x12 ws (ws.length : Int) (j : Int)) r := by
  induction m with
  | zero =>
    intro j acc hj _ h
    refine Ev.step (fun k => ?_) h
    simp only [impl_words.l1]
    rw [if_neg (by omega), List.drop_eq_nil_of_le (by omega)]
    simp [nextW]
  | succ m ih =>
    intro j acc hj hb h
    have hlt : j < ws.length := by omega
    have e2 : wrap64 ((j : Int) + 1) = ((j + 1 : Nat) : Int) := by unfold wrap64; omega
    rw [Nat.add_mul] at hb
    have hw : ws[j].size ≤ 20 := hws _ (List.getElem_mem hlt)
    have h2 := iw2 d hd x11 x12 ws[j] hw ws (ws.length : Int) (j : Int) r d 0 acc (by omega) (by omega) (by
      rw [e2]
      refine ih (j + 1) _ (by omega) (by simp; omega) ?_
      rw [List.append_assoc]
      have : List.map (fun q => ws[j] ++ ltr q) (List.range' 0 d) ++ nextW d (ws.drop (j + 1)) = nextW d (ws.drop j) := by
        rw [List.drop_eq_getElem_cons hlt]
        simp only [nextW, List.flatMap_cons, List.range_eq_range']
      rw [this]
      exact h)
    refine Ev.step (fun k => ?_) h2
    simp only [impl_words.l1]
    have e3 : rdOf ByteArray.empty ws (j : Int) = ws[j] := by simp [rdOf, List.getElem?_eq_getElem hlt]
    rw [if_pos (by omega), if_pos (by omega), if_pos (by omega), e3]
    rfl
theorem iw0 (d : Nat) (hd : d ≤ 3) (N : Nat) (n : Nat) : ∀ m : Nat, m + n = N → N ≤ 20 → Ev (fun k => impl_words.l0 k (d : Int) (wordsL d m) (N : Int) (m : Int)) (wordsL d N) := by
  induction n with
  | zero =>
    intro m hm _
    obtain rfl : m = N := by omega
    refine Ev.step (f := fun _ => some (wordsL d m)) (fun k => ?_) (Ev.now _)
    simp only [impl_words.l0]
    rw [if_neg (by omega)]
  | succ n ih =>
    intro m hm hN
    have hb := wordsL_bound (d := d) (n := m) hd (by omega)
    have h1 := iw1 d hd (N : Int) (m : Int) (wordsL d m) (fun w hw => by rw [wordsL_size d m w hw]; omega) hb (wordsL d N) (wordsL d m).length 0 [] (by omega)
      (by have : (wordsL d m).length * d ≤ (wordsL d m).length * 3 := Nat.mul_le_mul_left _ hd
          simp; omega) (by
      have e : wrap64 ((m : Int) + 1) = ((m + 1 : Nat) : Int) := by unfold wrap64; omega
      rw [e]
      simp only [List.nil_append, List.drop_zero]
      exact ih (m + 1) (by omega) hN)
    refine Ev.step (fun k => ?_) h1
    simp only [impl_words.l0]
    rw [if_pos (by omega)]
    rfl
/-- The program's words. -/
theorem impl_words_are (d n : Nat) (hd : d ≤ 3) (hn : n ≤ 20) : Ev (fun k => impl_words.f k (d : Int) (n : Int)) (wordsL d n) := by
  have := iw0 d hd n n 0 (by omega) hn
  exact this

/-- Is it a Lyndon word? -/
def lynB (s : ByteArray) : Bool := (spec_l05Lyndon.f (s.size + 1) s).getD false
theorem lynB_spec (s : ByteArray) (hn : s.size ≤ 140737488351232) : Ev (fun k => spec_l05Lyndon.f k s) (lynB s) := by
  obtain ⟨b, hb⟩ := lyn_ends s hn s.size (s.size + 1) 1 (by omega) (by omega) (by omega)
  have e : lynB s = b := by unfold lynB spec_l05Lyndon.f; rw [hb]; rfl
  rw [e]
  exact Ev.of (fun k => spec_l05Lyndon.mono_l k _ _) hb
theorem lynB_impl (s : ByteArray) (hn : s.size ≤ 140737488351232) : Ev (fun k => impl_isLyndon.f k s) (lynB s) := by
  refine Ev.congr (fun k => ?_) (lynB_spec s hn)
  unfold impl_isLyndon.f spec_l05Lyndon.f
  exact lyn_same k s 1
theorem lynB_empty (s : ByteArray) (h : s.size = 0) : lynB s = false := by
  unfold lynB spec_l05Lyndon.f
  simp only [spec_l05Lyndon.l0]
  rw [if_neg (by omega)]
  simp [h]

/-! words as lists of digits -/
def encW (l : List Nat) : ByteArray := ⟨(l.map fun i => UInt8.ofNat (48 + i)).toArray⟩
def wordsN (d : Nat) : Nat → List (List Nat)
  | 0 => [[]]
  | n + 1 => (wordsN d n).flatMap fun w => (List.range d).map fun i => w ++ [i]
theorem encW_list (l : List Nat) : (encW l).toList = l.map fun i => UInt8.ofNat (48 + i) := by rw [ByteArray.toList_eq]; rfl
theorem encW_size (l : List Nat) : (encW l).size = l.length := by simp [encW, ByteArray.size]
theorem encW_append (a b : List Nat) : encW a ++ encW b = encW (a ++ b) := by
  apply ByteArray.ext
  simp [encW, ByteArray.data_append]
theorem ltr_enc (i : Nat) : ltr i = encW [i] := by
  unfold ltr encW strOfNums
  simp only [List.map_cons, List.map_nil, Int.toNat_natCast]
theorem wordsL_enc (d : Nat) : ∀ n, wordsL d n = (wordsN d n).map encW
  | 0 => rfl
  | n + 1 => by
    simp only [wordsL, wordsN, nextW]
    rw [wordsL_enc d n, List.flatMap_map, List.map_flatMap]
    congr 1; funext w
    rw [List.map_map]
    apply List.map_congr_left
    intro i _
    simp only [Function.comp, ltr_enc, encW_append]
theorem wordsN_lt (d : Nat) : ∀ n, ∀ w ∈ wordsN d n, w.length = n ∧ ∀ i ∈ w, i < d
  | 0 => by intro w hw; simp [wordsN] at hw; subst hw; simp
  | n + 1 => by
    intro w hw
    simp only [wordsN, List.mem_flatMap, List.mem_map, List.mem_range] at hw
    obtain ⟨v, hv, i, hi, rfl⟩ := hw
    obtain ⟨h1, h2⟩ := wordsN_lt d n v hv
    refine ⟨by simp [h1], fun j hj => ?_⟩
    rcases List.mem_append.1 hj with hj | hj
    · exact h2 j hj
    · rw [List.mem_singleton.1 hj]; exact hi
def lessN : List Nat → List Nat → Bool
  | _, [] => false
  | [], _ :: _ => true
  | a :: x, b :: y => a < b || (a == b && lessN x y)
theorem less_enc : ∀ a b : List Nat, (∀ i ∈ a, i < 100) → (∀ i ∈ b, i < 100) → Op.bytesLess (a.map fun i => UInt8.ofNat (48 + i)) (b.map fun i => UInt8.ofNat (48 + i)) = lessN a b
  | a, [], _, _ => by cases a <;> rfl
  | [], b :: y, _, _ => rfl
  | a :: x, b :: y, ha, hb => by
    have ih := less_enc x y (fun i hi => ha i (List.mem_cons_of_mem _ hi)) (fun i hi => hb i (List.mem_cons_of_mem _ hi))
    have h1 := ha a List.mem_cons_self
    have h2 := hb b List.mem_cons_self
    simp only [List.map_cons, Op.bytesLess, lessN, ih]
    have e1 : (UInt8.ofNat (48 + a) < UInt8.ofNat (48 + b)) ↔ a < b := by
      rw [UInt8.lt_iff_toNat_lt, UInt8.toNat_ofNat', UInt8.toNat_ofNat']; omega
    have e2 : (UInt8.ofNat (48 + a) = UInt8.ofNat (48 + b)) ↔ a = b := by
      rw [← UInt8.toNat_inj, UInt8.toNat_ofNat', UInt8.toNat_ofNat']; omega
    have e3 : (UInt8.ofNat (48 + a) == UInt8.ofNat (48 + b)) = (a == b) := by
      rw [Bool.eq_iff_iff, beq_iff_eq, beq_iff_eq]; exact e2
    rw [e3, decide_eq_decide.2 e1]
/-- Is it a Lyndon word? -/
def lynN (l : List Nat) : Bool := (List.range (l.length - 1)).all (fun j => lessN l (l.drop (j + 1))) && !l.isEmpty
theorem drop_enc (l : List Nat) (i : Nat) : ((encW l).extract i (encW l).size).toList = (l.drop i).map fun i => UInt8.ofNat (48 + i) := by
  rw [ByteArray.toList_eq, ByteArray.data_extract, Array.toList_extract, encW_size]
  simp only [encW, List.extract_eq_take_drop, List.map_drop]
  exact List.take_of_length_le (by simp)
theorem lyn_loop (l : List Nat) (hl : ∀ i ∈ l, i < 100) (hs : l.length ≤ 1000000) (m : Nat) : ∀ j : Nat, 1 ≤ j → j + m = l.length →
    Ev (fun k => spec_l05Lyndon.l0 k (encW l) (j : Int)) ((List.range' j m).all (fun q => lessN l (l.drop q))) := by
  induction m with
  | zero =>
    intro j h1 hj
    refine Ev.step (f := fun _ => some true) (fun k => ?_) (Ev.now _)
    simp only [spec_l05Lyndon.l0]
    rw [if_neg (by rw [encW_size]; omega)]
    simp [encW_size]; omega
  | succ m ih =>
    intro j h1 hj
    have hd : ∀ i ∈ l.drop j, i < 100 := fun i hi => hl i (List.mem_of_mem_drop hi)
    have hb : Op.bytesLess (encW l).toList ((encW l).extract (j : Int).toNat (encW l).size).toList = lessN l (l.drop j) := by
      rw [Int.toNat_natCast, encW_list, drop_enc, less_enc l (l.drop j) hl hd]
    rw [List.range'_succ, List.all_cons]
    by_cases c : lessN l (l.drop j) = true
    · rw [c, Bool.true_and]
      refine Ev.step (fun k => ?_) (ih (j + 1) (by omega) (by omega))
      simp only [spec_l05Lyndon.l0]
      rw [if_pos (by rw [encW_size]; omega), if_pos (by omega), if_pos (by rw [encW_size]; omega), hb, if_pos c, show wrap64 ((j : Int) + 1) = ((j + 1 : Nat) : Int) from by unfold wrap64; omega]
    · have c' : lessN l (l.drop j) = false := by simpa using c
      rw [c', Bool.false_and]
      refine Ev.step (f := fun _ => some false) (fun k => ?_) (Ev.now _)
      simp only [spec_l05Lyndon.l0]
      rw [if_pos (by rw [encW_size]; omega), if_pos (by omega), if_pos (by rw [encW_size]; omega), hb, if_neg c]
theorem range_all (p : Nat → Bool) (n : Nat) : (List.range' 1 n).all p = (List.range n).all (fun j => p (j + 1)) := by
  rw [List.range'_eq_map_range, List.all_map]
  congr 1; funext j; simp [Nat.add_comm]
theorem lyn_enc (l : List Nat) (hl : ∀ i ∈ l, i < 100) (hs : l.length ≤ 1000000) : Ev (fun k => spec_l05Lyndon.f k (encW l)) (lynN l) := by
  unfold lynN
  cases l with
  | nil =>
    refine Ev.step (f := fun _ => some false) (fun k => ?_) (Ev.now _)
    unfold spec_l05Lyndon.f
    simp only [spec_l05Lyndon.l0]
    rw [if_neg (by rw [encW_size]; simp)]
    simp [encW_size]
  | cons a x =>
    have h := lyn_loop (a :: x) hl hs x.length 1 (by omega) (by simp; omega)
    rw [range_all] at h
    have e : (((List.range ((a :: x).length - 1)).all fun j => lessN (a :: x) ((a :: x).drop (j + 1))) && !(a :: x).isEmpty) = (List.range x.length).all fun j => lessN (a :: x) ((a :: x).drop (j + 1)) := by simp
    rw [e]
    exact h
theorem ev_unique {α : Type} {g : Nat → Option α} {r q : α} (h1 : Ev g r) (h2 : Ev g q) : r = q := by
  obtain ⟨K, h1⟩ := h1
  obtain ⟨K', h2⟩ := h2
  have a := h1 (max K K') (Nat.le_max_left _ _)
  have b := h2 (max K K') (Nat.le_max_right _ _)
  rw [a] at b; exact Option.some.inj b
theorem lynB_enc (l : List Nat) (hl : ∀ i ∈ l, i < 100) (hs : l.length ≤ 1000000) : lynB (encW l) = lynN l :=
  ev_unique (lynB_spec (encW l) (by rw [encW_size]; omega)) (lyn_enc l hl hs)

/-! marks: texts -/
theorem w64m {x : Int} (h0 : -9223372036854775808 ≤ x) (h1 : x ≤ 9223372036854775807) : wrap64 x = x := by unfold wrap64; omega
theorem text_l0 (n : Nat) : ∀ (k : Nat) (s : ByteArray), k < n → k + s.size ≤ 1000000000000 → ∃ t, Ev (fun q => laws_markText.l0 q (k : Int) s) t := by
  induction n with
  | zero => intro k s h; omega
  | succ n ih =>
    intro k s hk hs
    by_cases c : k = 0
    · refine ⟨_, Ev.step (f := fun _ => some ((⟨#[109]⟩ : ByteArray) ++ s)) (fun q => ?_) (Ev.now _)⟩
      simp only [laws_markText.l0]
      rw [if_neg (by omega), if_pos (by omega)]
    · obtain ⟨t, ht⟩ := ih (k / 10) (strOfNums [wrap64 (48 + Int.tmod (k : Int) 10) % 256] ++ s) (by omega) (by rw [ByteArray.size_append, strOfNums_size]; simp only [List.length_cons, List.length_nil]; omega)
      refine ⟨t, Ev.step (fun q => ?_) ht⟩
      simp only [laws_markText.l0]
      have e : wrap64 (Int.tdiv (k : Int) 10) = ((k / 10 : Nat) : Int) := by
        rw [Int.tdiv_eq_ediv_of_nonneg (by omega)]
        rw [w64m (by omega) (by omega)]; omega
      rw [if_pos (by omega)]
      simp only [Option.bind_some]
      rw [if_pos (by rw [strOfNums_size]; simp only [List.length_cons, List.length_nil]; omega), e]
theorem text_ends (k : Nat) (hk : k ≤ 1000000000) : ∃ t, Ev (fun q => laws_markText.f q (k : Int)) t := by
  by_cases c : k = 0
  · exact ⟨_, Ev.congr (f := fun _ => some (⟨#[109, 48]⟩ : ByteArray)) (fun q => by unfold laws_markText.f; rw [if_pos (by omega)]) (Ev.now _)⟩
  · obtain ⟨t, ht⟩ := text_l0 (k + 1) k (⟨#[]⟩ : ByteArray) (by omega) (by show k + 0 ≤ _; omega)
    refine ⟨t, Ev.congr (fun q => ?_) ht⟩
    unfold laws_markText.f; rw [if_neg (by omega)]

theorem marks_ends (n m : Nat) : ∀ (j k0 : Nat) (l : List ByteArray), j + m = n → l.length = n → n ≤ 2000000 → k0 + m ≤ 100000000 →
    ∃ l' : List ByteArray, l'.length = n ∧ (∀ i, i < j → l'[i]? = l[i]?) ∧ Ev (fun q => laws_markStringS.l0 q l (k0 : Int) (j : Int)) ((k0 : Int) + m, l') ∧ Ev (fun q => laws_heldStringS.l0 q l' (k0 : Int) (j : Int)) ((k0 : Int) + m) := by
  induction m with
  | zero =>
    intro j k0 l hj hl hn hk
    refine ⟨l, hl, fun _ _ => rfl, Ev.step (f := fun _ => some ((k0 : Int), l)) (fun q => ?_) ?_, Ev.step (f := fun _ => some (k0 : Int)) (fun q => ?_) ?_⟩
    · simp only [laws_markStringS.l0]; rw [if_neg (by omega)]
    · rw [show ((k0 : Int) + (0 : Nat)) = k0 by omega]; exact Ev.now _
    · simp only [laws_heldStringS.l0]; rw [if_neg (by omega)]
    · rw [show ((k0 : Int) + (0 : Nat)) = k0 by omega]; exact Ev.now _
  | succ m ih =>
    intro j k0 l hj hl hn hk
    have hlt : j < l.length := by omega
    obtain ⟨t, ht⟩ := text_ends k0 (by omega)
    obtain ⟨l', h1, h2, h3, h4⟩ := ih (j + 1) (k0 + 1) (l.set j t) (by omega) (by rw [List.length_set]; exact hl) hn (by omega)
    have ek : wrap64 ((k0 : Int) + 1) = ((k0 + 1 : Nat) : Int) := by rw [w64m (by omega) (by omega)]; rfl
    have ej : wrap64 ((j : Int) + 1) = ((j + 1 : Nat) : Int) := by rw [w64m (by omega) (by omega)]; rfl
    have er : ((k0 + 1 : Nat) : Int) + (m : Nat) = (k0 : Int) + ((m + 1 : Nat) : Int) := by omega
    rw [er] at h3 h4
    have hj' : l'[j]? = some t := by rw [h2 j (by omega), List.getElem?_set_self hlt]
    refine ⟨l', h1, fun i hi => ?_, ?_, ?_⟩
    · rw [h2 i (by omega), List.getElem?_set_ne (by omega)]
    · refine Ev.step (f := fun q => (laws_markText.f q (k0 : Int)).bind fun t => laws_markStringS.l0 q (l.set j t) ((k0 + 1 : Nat) : Int) ((j + 1 : Nat) : Int)) (fun q => ?_) (Ev.bind ht h3)
      simp only [laws_markStringS.l0]
      rw [if_pos (by omega), ek, ej]
      simp only [show (0 : Int) ≤ (j : Int) from by omega, if_true, Int.toNat_natCast]
    · refine Ev.step (f := fun q => (laws_markText.f q (k0 : Int)).bind fun t2 => if (rdOf ByteArray.empty l' (j : Int)).toList = t2.toList then laws_heldStringS.l0 q l' ((k0 + 1 : Nat) : Int) ((j + 1 : Nat) : Int) else some (-1)) (fun q => ?_) (Ev.bind ht ?_)
      · simp only [laws_heldStringS.l0]
        rw [if_pos (by omega), if_pos (by omega), ek, ej]
      · have : rdOf ByteArray.empty l' (j : Int) = t := by simp [rdOf, hj']
        rw [this]; simp only [if_true]
        exact h4
/-- Marks are held. -/
theorem marks (l : List ByteArray) (hl : l.length ≤ 2000000) : ∃ l' : List ByteArray, Ev (fun q => laws_markStringS.f q l 1) (1 + (l.length : Int), l') ∧ Ev (fun q => laws_heldStringS.f q l' 1) (1 + (l.length : Int)) := by
  obtain ⟨l', _, _, h3, h4⟩ := marks_ends l.length l.length 0 1 l (by omega) rfl hl (by omega)
  exact ⟨l', h3, h4⟩
theorem eqS (l : List ByteArray) (hl : l.length ≤ 2000000) (m : Nat) : ∀ j : Nat, j + m = l.length → Ev (fun q => laws_eqStringS.l0 q l l (j : Int)) true := by
  induction m with
  | zero =>
    intro j hj
    refine Ev.step (f := fun _ => some true) (fun q => ?_) (Ev.now _)
    simp only [laws_eqStringS.l0]; rw [if_neg (by omega)]
  | succ m ih =>
    intro j hj
    refine Ev.step (fun q => ?_) (ih (j + 1) (by omega))
    simp only [laws_eqStringS.l0]
    rw [if_pos (by omega), if_pos (by omega), if_pos (by omega), w64m (x := (j : Int) + 1) (by omega) (by omega)]
    simp only [if_true]; rfl
theorem eq_same (l : List ByteArray) (hl : l.length ≤ 2000000) : Ev (fun q => laws_eqStringS.f q l l) true := by
  refine Ev.congr (fun q => ?_) (eqS l hl l.length 0 (by omega))
  unfold laws_eqStringS.f; rw [if_pos rfl]; rfl

/-- The law, where both come to the same list and code. -/
theorem law_of (d : Int) (s : Int) (l : List ByteArray) (c : Int) (hl : l.length ≤ 2000000) (h1 : Ev (fun q => spec_LyndonWords.f q d s) (l, c)) (h2 : Ev (fun q => impl_LyndonWords.f q d s) (l, c)) : ∃ k, laws_FnExactLyndonWords.f k d s = some true := by
  obtain ⟨l', h3, h4⟩ := marks l hl
  have h5 := eq_same l hl
  refine Ev.rounds (Ev.congr (f := fun q => (spec_LyndonWords.f q d s).bind fun a => (impl_LyndonWords.f q d s).bind fun b => (laws_eqStringS.f q b.1 a.1).bind fun t => if t = true then laws_FnExactLyndonWords.j0 q d s a.1 a.2 b.1 (b.2 != a.2) else laws_FnExactLyndonWords.j0 q d s a.1 a.2 b.1 true) (fun q => ?_) (Ev.bind h1 (Ev.bind h2 (Ev.bind h5 ?_))))
  · rfl
  · simp only [if_true, bne_self_eq_false]
    refine Ev.step (f := fun q => (laws_markStringS.f q l 1).bind fun a => (laws_heldStringS.f q a.2 1).bind fun t => if t < 0 then some false else if t = a.1 then (impl_LyndonWords.f q d s).bind fun b => (laws_eqStringS.f q b.1 l).bind fun t => if t = true then laws_FnExactLyndonWords.j1 q a.2 a.1 (b.2 != c) else laws_FnExactLyndonWords.j1 q a.2 a.1 true else some false) (fun q => ?_) (Ev.bind h3 (Ev.bind h4 ?_))
    · simp only [laws_FnExactLyndonWords.j0, if_false, Bool.false_eq_true]
    · have hn : ¬ (1 + (l.length : Int)) < 0 := by omega
      simp only [hn, if_false, if_true]
      refine Ev.bind h2 (Ev.bind h5 ?_)
      simp only [if_true, bne_self_eq_false]
      refine Ev.step (f := fun q => (laws_heldStringS.f q l' 1).bind fun t => if t < 0 then some false else if t = 1 + (l.length : Int) then some true else some false) (fun q => ?_) (Ev.bind h4 ?_)
      · simp only [laws_FnExactLyndonWords.j1, if_false, Bool.false_eq_true]
      · simp only [hn, if_false, if_true]
        exact Ev.now _

theorem counts : ∀ d : Fin 3, ∀ n : Fin 8, spec_l05Count.f 300 ((d.val : Int) + 1) ((n.val : Int) + 1) = some (((wordsN (d.val + 1) (n.val + 1)).filter lynN).length : Int) := by decide +kernel
theorem lyn_impl (s : ByteArray) (hn : s.size ≤ 1000) : impl_lyndons.lyn s = lynB s := by
  have h1 := impl_lyndons.lyn_is s (by omega)
  exact ev_unique (Ev.of (fun k => impl_isLyndon.mono _ k) h1) (lynB_impl s (by omega))
theorem fil (d n : Nat) (hn : n ≤ 20) (hd : d ≤ 3) : ((wordsL d n).filter lynB).length = ((wordsN d n).filter lynN).length := by
  rw [wordsL_enc, List.filter_map, List.length_map]
  congr 1
  apply List.filter_congr
  intro w hw
  obtain ⟨h1, h2⟩ := wordsN_lt d n w hw
  exact lynB_enc w (fun i hi => by have := h2 i hi; omega) (by omega)
theorem spec_list (ws : List ByteArray) (hws : ∀ v ∈ ws, v.size ≤ 20) (hl : ws.length ≤ 3486784401) (m : Nat) : ∀ (j : Nat) (acc : List ByteArray), j + m = ws.length → acc.length + m ≤ 3486784401 →
    Ev (fun k => spec_LyndonWords.l0 k ws acc (j : Int)) (acc ++ (ws.drop j).filter lynB, 0) := by
  induction m with
  | zero =>
    intro j acc hj _
    rw [List.drop_eq_nil_of_le (by omega)]
    refine Ev.step (f := fun _ => some (acc, 0)) (fun k => ?_) (by simpa using Ev.now (acc, (0 : Int)))
    simp only [spec_LyndonWords.l0]; rw [if_neg (by omega)]
  | succ m ih =>
    intro j acc hj hb
    have hlt : j < ws.length := by omega
    have e2 : wrap64 ((j : Int) + 1) = ((j + 1 : Nat) : Int) := by unfold wrap64; omega
    have e3 : rdOf ByteArray.empty ws (j : Int) = ws[j] := by simp [rdOf, List.getElem?_eq_getElem hlt]
    have hv : ws[j].size ≤ 20 := hws _ (List.getElem_mem hlt)
    rw [List.drop_eq_getElem_cons hlt]
    refine Ev.step (f := fun k => (spec_l05Lyndon.f k ws[j]).bind fun t => if t = true then (if acc.length < 8796093022208 then spec_LyndonWords.l0 k ws (acc ++ [ws[j]]) ((j + 1 : Nat) : Int) else none) else spec_LyndonWords.l0 k ws acc ((j + 1 : Nat) : Int)) (fun k => ?_) (Ev.bind (lynB_spec ws[j] (by omega)) ?_)
    · simp only [spec_LyndonWords.l0]
      rw [if_pos (by omega), if_pos (by omega), e3, e2]
    · by_cases c : lynB ws[j] = true
      · simp only [c, if_true]
        rw [List.filter_cons_of_pos c]
        have h := ih (j + 1) (acc ++ [ws[j]]) (by omega) (by simp; omega)
        rw [List.append_assoc] at h
        refine Ev.congr (fun k => ?_) h
        rw [if_pos (by omega)]
      · simp only [c, if_false, Bool.false_eq_true]
        rw [List.filter_cons_of_neg c]
        exact ih (j + 1) acc (by omega) (by omega)
theorem both (d n : Nat) (hd : 1 ≤ d ∧ d ≤ 3) (hn : 1 ≤ n ∧ n ≤ 8) : ∃ (l : List ByteArray) (c : Int), l.length ≤ 2000000 ∧ Ev (fun k => spec_LyndonWords.j0 k (d : Int) (n : Int) false) (l, c) ∧ Ev (fun k => impl_LyndonWords.j0 k (d : Int) (n : Int) false) (l, c) := by
  have hc := counts ⟨d - 1, by omega⟩ ⟨n - 1, by omega⟩
  simp only [show (((d - 1 : Nat) : Int) + 1) = (d : Int) by omega, show (((n - 1 : Nat) : Int) + 1) = (n : Int) by omega, show d - 1 + 1 = d by omega, show n - 1 + 1 = n by omega] at hc
  rw [← fil d n (by omega) hd.2] at hc
  have hC : Ev (fun k => spec_l05Count.f k (d : Int) (n : Int)) (((wordsL d n).filter lynB).length : Int) := Ev.of (fun k => spec_l05Count.mono _ _ k) hc
  have hb := wordsL_bound (d := d) (n := n) hd.2 (by omega)
  have hs : ∀ w ∈ wordsL d n, w.size ≤ 20 := fun w hw => by rw [wordsL_size d n w hw]; omega
  have hlen : ((wordsL d n).filter lynB).length ≤ (wordsL d n).length := List.length_filter_le _ _
  have hI : Ev (fun k => impl_lyndons.f k (d : Int) (n : Int)) ((wordsL d n).filter lynB) := by
    refine Ev.bind (impl_words_are d n hd.2 (by omega)) ?_
    have hne : wordsL d n ≠ [] ∧ ∀ s ∈ wordsL d n, s.size ≤ 1000000 := by
      refine ⟨fun h => ?_, fun s h => by have := hs s h; omega⟩
      have := wordsL_length d n
      rw [h] at this
      have h2 : 1 ^ n ≤ d ^ n := Nat.pow_le_pow_left hd.1 n
      rw [Nat.one_pow] at h2
      simp at this; omega
    refine Ev.congr (f := fun _ => some ((wordsL d n).filter lynB)) (fun k => ?_) (Ev.now _)
    rw [if_pos hne]
    congr 1
    apply List.filter_congr
    intro w hw
    exact lyn_impl w (by have := hs w hw; omega)
  by_cases c : (((wordsL d n).filter lynB).length : Int) > 400
  · refine ⟨[], 3, by simp, Ev.step (f := fun k => (spec_l05Count.f k (d : Int) (n : Int)).bind fun t => if t > 400 then some (([] : List ByteArray), 3) else (spec_l01Words.f k (d : Int) (n : Int)).bind fun t => spec_LyndonWords.l0 k t [] 0) (fun k => ?_) (Ev.bind hC ?_), Ev.step (f := fun k => (impl_lyndons.f k (d : Int) (n : Int)).bind fun t => if (t.length : Int) > 400 then some (([] : List ByteArray), 3) else some (t, 0)) (fun k => ?_) (Ev.bind hI ?_)⟩
    · simp only [spec_LyndonWords.j0, if_false, Bool.false_eq_true]
    · simp only [c, if_true]; exact Ev.now _
    · simp only [impl_LyndonWords.j0, if_false, Bool.false_eq_true]
    · simp only [c, if_true]; exact Ev.now _
  · refine ⟨(wordsL d n).filter lynB, 0, by omega, Ev.step (f := fun k => (spec_l05Count.f k (d : Int) (n : Int)).bind fun t => if t > 400 then some (([] : List ByteArray), 3) else (spec_l01Words.f k (d : Int) (n : Int)).bind fun t => spec_LyndonWords.l0 k t [] 0) (fun k => ?_) (Ev.bind hC ?_), Ev.step (f := fun k => (impl_lyndons.f k (d : Int) (n : Int)).bind fun t => if (t.length : Int) > 400 then some (([] : List ByteArray), 3) else some (t, 0)) (fun k => ?_) (Ev.bind hI ?_)⟩
    · simp only [spec_LyndonWords.j0, if_false, Bool.false_eq_true]
    · simp only [c, if_false]
      refine Ev.bind (spec_words d n hd.2 (by omega)) ?_
      have := spec_list (wordsL d n) hs hb (wordsL d n).length 0 [] (by omega) (by simp; omega)
      rw [List.drop_zero, List.nil_append] at this
      exact this
    · simp only [impl_LyndonWords.j0, if_false, Bool.false_eq_true]
    · simp only [c, if_false]; exact Ev.now _
theorem FnExactLyndonWords : laws_FnExactLyndonWords.Pure := by
  intro d n _ _
  have key : ∃ (l : List ByteArray) (c : Int), l.length ≤ 2000000 ∧ Ev (fun k => spec_LyndonWords.f k d n) (l, c) ∧ Ev (fun k => impl_LyndonWords.f k d n) (l, c) := by
    have wrongS : Ev (fun k => spec_LyndonWords.j0 k d n true) (([] : List ByteArray), 2) := Ev.step (f := fun _ => some (([] : List ByteArray), 2)) (fun k => by simp [spec_LyndonWords.j0]) (Ev.now _)
    have wrongI : Ev (fun k => impl_LyndonWords.j0 k d n true) (([] : List ByteArray), 2) := Ev.step (f := fun _ => some (([] : List ByteArray), 2)) (fun k => by simp [impl_LyndonWords.j0]) (Ev.now _)
    unfold spec_LyndonWords.f impl_LyndonWords.f spec_l01In.f impl_areLetters.f impl_within.f
    by_cases c1 : d ≥ 1
    · by_cases c2 : d ≤ 3
      · by_cases c3 : n ≥ 1
        · by_cases c4 : n ≤ 8
          · obtain ⟨d, rfl⟩ : ∃ q : Nat, d = (q : Int) := ⟨d.toNat, by omega⟩
            obtain ⟨n, rfl⟩ : ∃ q : Nat, n = (q : Int) := ⟨n.toNat, by omega⟩
            obtain ⟨l, c, h0, h1, h2⟩ := both d n ⟨by omega, by omega⟩ ⟨by omega, by omega⟩
            refine ⟨l, c, h0, ?_, ?_⟩
            · simp only [c1, c2, c3, c4, if_true, decide_true, Option.bind_some, Bool.not_true]; exact h1
            · simp only [c1, c2, c3, c4, if_true, decide_true, Option.bind_some, Bool.not_true]; exact h2
          · refine ⟨[], 2, by simp, ?_, ?_⟩
            · simp only [c1, c2, c3, c4, if_true, decide_true, decide_false, Option.bind_some, Bool.not_false]; exact wrongS
            · simp only [c1, c2, c3, c4, if_true, decide_true, decide_false, Option.bind_some, Bool.not_false]; exact wrongI
        · refine ⟨[], 2, by simp, ?_, ?_⟩
          · simp only [c1, c2, c3, if_true, if_false, decide_true, Option.bind_some, Bool.not_false]; exact wrongS
          · simp only [c1, c2, c3, if_true, if_false, decide_true, Option.bind_some, Bool.not_false]; exact wrongI
      · refine ⟨[], 2, by simp, ?_, ?_⟩
        · simp only [c1, c2, if_true, decide_false, Option.bind_some, if_false, Bool.false_eq_true]; exact wrongS
        · simp only [c1, c2, if_true, decide_false, Option.bind_some, if_false, Bool.false_eq_true]; exact wrongI
    · refine ⟨[], 2, by simp, ?_, ?_⟩
      · simp only [c1, if_false, Option.bind_some, Bool.false_eq_true]; exact wrongS
      · simp only [c1, if_false, Option.bind_some, Bool.false_eq_true]; exact wrongI
  obtain ⟨l, c, h0, h1, h2⟩ := key
  exact law_of d n l c h0 h1 h2

end Go.Proofs.Ytocldhojbnegjaa.Pure
