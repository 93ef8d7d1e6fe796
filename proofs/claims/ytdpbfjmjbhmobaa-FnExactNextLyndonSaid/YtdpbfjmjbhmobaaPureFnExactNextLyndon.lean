/- FnExactNextLyndon: for all numbers and every text, the program's NextLyndon answers what the reference's answers. No condition. -/
import Derived.Test.YtdpbfjmjbhmobaaQFnExactNextLyndonx3
namespace Go.Proofs.Ytdpbfjmjbhmobaa.Pure
open Go.RowKit Go.Proofs.Ytdpbfjmjbhmobaa.PFnExactNextLyndon Go.Proofs.YtdpbfjmjbhmobaaW.PrintWords Go.Proofs.YtdpbfjmjbhmobaaW.PrintLast
set_option linter.unusedSimpArgs false
set_option linter.unusedVariables false

theorem w64 {x : Int} (h0 : -9223372036854775808 ≤ x) (h1 : x ≤ 9223372036854775807) : wrap64 x = x := by unfold wrap64; omega

theorem word_ends (d : Int) (s : ByteArray) (hn : s.size ≤ 140737488351232) (n : Nat) : ∀ (k : Nat) (i : Int), 0 ≤ i → i ≤ s.size → (s.size : Int) - i = n → n < k →
    ∃ b, spec_l01Word.l0 k d s i = some b := by
  induction n with
  | zero =>
    intro k i h0 h1 hd hk
    obtain ⟨k, rfl⟩ : ∃ m, k = m + 1 := ⟨k - 1, by omega⟩
    exact ⟨true, by simp only [spec_l01Word.l0]; rw [if_neg (by omega)]⟩
  | succ n ih =>
    intro k i h0 h1 hd hk
    obtain ⟨k, rfl⟩ : ∃ m, k = m + 1 := ⟨k - 1, by omega⟩
    simp only [spec_l01Word.l0]
    rw [if_pos (by omega), if_pos h0]
    split
    · exact ⟨_, rfl⟩
    · split
      · exact ⟨_, rfl⟩
      · rw [w64 (by omega) (by omega)]
        exact ih k (i + 1) (by omega) (by omega) (by omega) (by omega)

theorem word_same (d m : Int) (s : ByteArray) (hn : s.size ≤ 140737488351232) (hd0 : 1 ≤ d) (hd1 : d ≤ 3) : ∀ (k : Nat) (i : Int) (b : Bool), 0 ≤ i → i ≤ s.size →
    spec_l01Word.l0 k d s i = some b → impl_isWord.l0 k d s m (s.size : Int) i = some (b && decide ((s.size : Int) ≤ m)) := by
  intro k
  induction k with
  | zero => intro i b _ _ h; simp [spec_l01Word.l0] at h
  | succ k ih =>
    intro i b h0 h1 h
    have hb := bt_range s i
    simp only [spec_l01Word.l0] at h
    simp only [impl_isWord.l0]
    by_cases c : i < (s.size : Int)
    · rw [if_pos c, if_pos h0] at h
      rw [if_pos c, if_pos h0, if_pos c, w64 (x := bt s i) (by omega) (by omega), w64 (x := 48 + d) (by omega) (by omega)]
      by_cases c2 : bt s i < 48
      · rw [if_pos c2] at h ⊢
        obtain rfl := Option.some.inj h
        simp
      · rw [if_neg c2] at h ⊢
        rw [Int.emod_eq_of_lt (by omega) (by omega)] at h
        by_cases c3 : bt s i - 48 ≥ d
        · rw [if_pos c3] at h
          rw [if_pos (by omega)]
          obtain rfl := Option.some.inj h
          simp
        · rw [if_neg c3] at h
          rw [if_neg (by omega)]
          rw [w64 (x := i + 1) (by omega) (by omega)] at h ⊢
          exact ih (i + 1) b (by omega) (by omega) h
    · rw [if_neg c] at h ⊢
      obtain rfl := Option.some.inj h
      simp

/-- Both look at a short word alike. -/
theorem short_same (d : Int) (s : ByteArray) (hn : s.size ≤ 140737488351232) : ∃ (K : Nat) (b : Bool), ∀ k, K ≤ k → spec_l05Word.f k d s 8 = some b ∧ impl_isShort.f k d s = some b := by
  unfold spec_l05Word.f impl_isShort.f spec_l01In.f impl_areLetters.f impl_within.f
  by_cases c1 : d ≥ 1
  · by_cases c2 : d ≤ 3
    · obtain ⟨b, hb⟩ := word_ends d s hn s.size (s.size + 1) 0 (by omega) (by omega) (by omega) (by omega)
      refine ⟨s.size + 1, b && decide ((s.size : Int) ≤ 8), fun k hk => ?_⟩
      have hb' : spec_l01Word.l0 k d s 0 = some b := at_rounds (fun k => spec_l01Word.mono_l k _ _ _) hk hb
      have hi := word_same d 8 s hn (by omega) c2 k 0 b (by omega) (by omega) hb'
      simp only [c1, c2, if_true, decide_true, Option.bind_some, spec_l01Word.f, impl_isWord.f, hb', hi]
      by_cases c3 : (s.size : Int) ≤ 8 <;> simp [c3]
    · exact ⟨0, false, fun k _ => by simp [c1, c2]⟩
  · exact ⟨0, false, fun k _ => by simp [c1]⟩

theorem lyn_same : ∀ (k : Nat) (s : ByteArray) (i : Int), impl_isLyndon.l0 k s i = spec_l05Lyndon.l0 k s i := by
  intro k
  induction k with
  | zero => intro s i; rfl
  | succ k ih =>
    intro s i
    simp only [spec_l05Lyndon.l0, impl_isLyndon.l0, ih]
    have e : (s.toList != ([] : List UInt8)) = decide ((s.size : Int) > 0) := by
      rw [ByteArray.toList_eq, Bool.eq_iff_iff]
      simp only [bne_iff_ne, ne_eq, decide_eq_true_eq]
      have : s.size = s.data.toList.length := by simp
      rw [this]
      cases s.data.toList <;> simp
    rw [e]

theorem lyn_ends (s : ByteArray) (hn : s.size ≤ 140737488351232) (n : Nat) : ∀ (k : Nat) (i : Int), 0 ≤ i → (s.size : Int) - i ≤ n → n < k →
    ∃ b, spec_l05Lyndon.l0 k s i = some b := by
  induction n with
  | zero =>
    intro k i h0 hd hk
    obtain ⟨k, rfl⟩ : ∃ m, k = m + 1 := ⟨k - 1, by omega⟩
    simp only [spec_l05Lyndon.l0]; rw [if_neg (by omega)]; exact ⟨_, rfl⟩
  | succ n ih =>
    intro k i h0 hd hk
    obtain ⟨k, rfl⟩ : ∃ m, k = m + 1 := ⟨k - 1, by omega⟩
    simp only [spec_l05Lyndon.l0]
    by_cases c : i < (s.size : Int)
    · rw [if_pos c, if_pos h0, if_pos (by omega)]
      split
      · rw [w64 (by omega) (by omega)]
        exact ih k (i + 1) (by omega) (by omega) (by omega)
      · exact ⟨_, rfl⟩
    · rw [if_neg c]; exact ⟨_, rfl⟩

/-- Both tell a Lyndon word alike. -/
theorem lyndon_same (s : ByteArray) (hn : s.size ≤ 140737488351232) : ∃ (K : Nat) (b : Bool), ∀ k, K ≤ k → spec_l05Lyndon.f k s = some b ∧ impl_isLyndon.f k s = some b := by
  obtain ⟨b, hb⟩ := lyn_ends s hn s.size (s.size + 1) 1 (by omega) (by omega) (by omega)
  refine ⟨s.size + 1, b, fun k hk => ?_⟩
  have hb' : spec_l05Lyndon.l0 k s 1 = some b := at_rounds (fun k => spec_l05Lyndon.mono_l k _ _) hk hb
  exact ⟨hb', by unfold impl_isLyndon.f; rw [lyn_same]; exact hb'⟩

/-! words -/
def ltr (i : Nat) : ByteArray := strOfNums [((48 + i : Nat) : Int)]
theorem ltr_size (i : Nat) : (ltr i).size = 1 := strOfNums_size _
def nextW (d : Nat) (ws : List ByteArray) : List ByteArray := ws.flatMap (fun w => (List.range d).map (fun i => w ++ ltr i))
def wordsL (d : Nat) : Nat → List ByteArray
  | 0 => [(⟨#[]⟩ : ByteArray)]
  | n + 1 => nextW d (wordsL d n)
theorem nextW_size {d m : Nat} {ws : List ByteArray} (h : ∀ w ∈ ws, w.size = m) : ∀ w ∈ nextW d ws, w.size = m + 1 := by
  intro w hw
  simp only [nextW, List.mem_flatMap, List.mem_map] at hw
  obtain ⟨v, hv, i, _, rfl⟩ := hw
  rw [ByteArray.size_append, h v hv, ltr_size]
theorem wordsL_size (d : Nat) : ∀ n, ∀ w ∈ wordsL d n, w.size = n
  | 0 => by intro w hw; simp [wordsL] at hw; subst hw; rfl
  | n + 1 => nextW_size (wordsL_size d n)
theorem nextW_length (d : Nat) (ws : List ByteArray) : (nextW d ws).length = ws.length * d := by
  induction ws with
  | nil => simp [nextW]
  | cons w ws ih => simp only [nextW, List.flatMap_cons, List.length_append, List.length_map, List.length_range] at ih ⊢; rw [ih, List.length_cons, Nat.add_mul]; omega
theorem wordsL_length (d : Nat) : ∀ n, (wordsL d n).length = d ^ n
  | 0 => rfl
  | n + 1 => by simp only [wordsL]; rw [nextW_length, wordsL_length d n, Nat.pow_succ]
theorem wordsL_bound {d n : Nat} (hd : d ≤ 3) (hn : n ≤ 20) : (wordsL d n).length ≤ 3486784401 := by
  rw [wordsL_length]
  calc d ^ n ≤ 3 ^ n := Nat.pow_le_pow_left hd n
    _ ≤ 3 ^ 20 := Nat.pow_le_pow_right (by omega) hn
    _ = 3486784401 := by decide

theorem sw2 (d : Nat) (hd : d ≤ 3) (x1 : Int) (ws : List ByteArray) (hws : ∀ w ∈ ws, w.size ≤ 20) (j : Nat) (hj : j < ws.length) (r : List ByteArray) (m : Nat) : ∀ (i : Nat) (acc : List ByteArray), i + m = d →
    acc.length + m ≤ 8796093022208 →
    Ev (fun k => spec_l01Words.l1 k (d : Int) x1 ws (acc ++ (List.range' i m).map (fun q => ws.getD j ByteArray.empty ++ ltr q)) (wrap64 ((j : Int) + 1))) r →
    Ev (fun k => spec_l01Words.l2 k (d : Int) x1 ws acc (j : Int) (i : Int)) r := by
  induction m with
  | zero =>
    intro i acc hi _ h
    refine Ev.step (fun k => ?_) h
    simp only [spec_l01Words.l2]
    rw [if_neg (by omega)]
    simp
  | succ m ih =>
    intro i acc hi hb h
    have hw : (ws.getD j ByteArray.empty).size ≤ 20 := by
      rw [List.getD_eq_getElem?_getD, List.getElem?_eq_getElem hj]
      exact hws _ (List.getElem_mem hj)
    refine Ev.step (fun k => ?_) (ih (i + 1) (acc ++ [ws.getD j ByteArray.empty ++ ltr i]) (by omega) (by simp; omega) ?_)
    · simp only [spec_l01Words.l2]
      have e1 : wrap64 (48 + (i : Int)) % 256 = ((48 + i : Nat) : Int) := by unfold wrap64; omega
      have e2 : wrap64 ((i : Int) + 1) = ((i + 1 : Nat) : Int) := by unfold wrap64; omega
      rw [if_pos (by omega), if_pos (by omega), if_pos (by omega)]
      simp only [Option.bind_some, e1, e2]
      have e3 : rdOf ByteArray.empty ws (j : Int) = ws.getD j ByteArray.empty := by simp [rdOf]
      rw [e3]
      have := ltr_size i
      rw [if_pos (by show _ + (ltr i).size ≤ _; omega), if_pos (by omega)]
      rfl
    · rw [List.append_assoc, List.range'_succ] at *
      exact h
theorem sw1 (d : Nat) (hd : d ≤ 3) (x1 : Int) (ws : List ByteArray) (hws : ∀ w ∈ ws, w.size ≤ 20) (hl : ws.length ≤ 3486784401) (r : List ByteArray) (m : Nat) : ∀ (j : Nat) (acc : List ByteArray), j + m = ws.length →
    acc.length + m * d ≤ 8796093022208 →
    Ev (fun k => spec_l01Words.l0 k (d : Int) (wrap64 (x1 - 1)) (acc ++ nextW d (ws.drop j))) r →
    Ev (fun k => spec_l01Words.l1 k (d : Int) x1 ws acc (j : Int)) r := by
  induction m with
  | zero =>
    intro j acc hj _ h
    refine Ev.step (fun k => ?_) h
    simp only [spec_l01Words.l1]
    rw [if_neg (by omega), List.drop_eq_nil_of_le (by omega)]
    simp [nextW]
  | succ m ih =>
    intro j acc hj hb h
    have hlt : j < ws.length := by omega
    have e2 : wrap64 ((j : Int) + 1) = ((j + 1 : Nat) : Int) := by unfold wrap64; omega
    rw [Nat.add_mul] at hb
    have h2 := sw2 d hd x1 ws hws j hlt r d 0 acc (by omega) (by omega) (by
      rw [e2]
      refine ih (j + 1) _ (by omega) (by simp; omega) ?_
      rw [List.append_assoc]
      have : List.map (fun q => ws.getD j ByteArray.empty ++ ltr q) (List.range' 0 d) ++ nextW d (ws.drop (j + 1)) = nextW d (ws.drop j) := by
        rw [List.drop_eq_getElem_cons hlt]
        simp only [nextW, List.flatMap_cons, List.range_eq_range']
        rw [List.getD_eq_getElem?_getD, List.getElem?_eq_getElem hlt]; rfl
      rw [this]
      exact h)
    refine Ev.step (fun k => ?_) h2
    simp only [spec_l01Words.l1]
    rw [if_pos (by omega)]
    rfl
theorem sw0 (d : Nat) (hd : d ≤ 3) (n : Nat) : ∀ m : Nat, m + n ≤ 20 → Ev (fun k => spec_l01Words.l0 k (d : Int) (n : Int) (wordsL d m)) (wordsL d (m + n)) := by
  induction n with
  | zero =>
    intro m _
    refine Ev.step (f := fun _ => some (wordsL d m)) (fun k => ?_) (Ev.now _)
    simp only [spec_l01Words.l0]
    rw [if_neg (by omega)]
  | succ n ih =>
    intro m hm
    have hb := wordsL_bound (d := d) (n := m) hd (by omega)
    have h1 := sw1 d hd ((n + 1 : Nat) : Int) (wordsL d m) (fun w hw => by rw [wordsL_size d m w hw]; omega) hb (wordsL d (m + (n + 1))) (wordsL d m).length 0 [] (by omega)
      (by have : (wordsL d m).length * d ≤ (wordsL d m).length * 3 := Nat.mul_le_mul_left _ hd
          simp; omega) (by
      have e : wrap64 (((n + 1 : Nat) : Int) - 1) = (n : Int) := by unfold wrap64; omega
      rw [e]
      have := ih (m + 1) (by omega)
      simp only [List.nil_append, List.drop_zero]
      rw [show m + 1 + n = m + (n + 1) by omega] at this
      exact this)
    refine Ev.step (fun k => ?_) h1
    simp only [spec_l01Words.l0]
    rw [if_pos (by omega)]
    rfl
/-- The reference's words. -/
theorem spec_words (d n : Nat) (hd : d ≤ 3) (hn : n ≤ 20) : Ev (fun k => spec_l01Words.f k (d : Int) (n : Int)) (wordsL d n) := by
  have := sw0 d hd n 0 (by omega)
  rw [Nat.zero_add] at this
  exact this

theorem letter_is (i : Nat) (h : i < 100) : impl_letter.f (i : Int) = some (ltr i) := by
  unfold impl_letter.f ltr
  rw [show (48 + (i : Int) % 256) % 256 = ((48 + i : Nat) : Int) by omega]
theorem iw2 (d : Nat) (hd : d ≤ 3) (x11 x12 : Int) (w : ByteArray) (hw : w.size ≤ 20) (ws : List ByteArray) (x15 x16 : Int) (r : List ByteArray) (m : Nat) : ∀ (i : Nat) (acc : List ByteArray), i + m = d →
    acc.length + m ≤ 8796093022208 →
    Ev (fun k => impl_words.l1 k (d : Int) (acc ++ (List.range' i m).map (fun q => w ++ ltr q)) x11 x12 ws x15 (wrap64 (x16 + 1))) r →
    Ev (fun k => impl_words.l2 k (d : Int) acc w x11 x12 ws x15 x16 (d : Int) (i : Int)) r := by
  induction m with
  | zero =>
    intro i acc hi _ h
    refine Ev.step (fun k => ?_) h
    simp only [impl_words.l2]
    rw [if_neg (by omega)]
    simp
  | succ m ih =>
    intro i acc hi hb h
    refine Ev.step (fun k => ?_) (ih (i + 1) (acc ++ [w ++ ltr i]) (by omega) (by simp; omega) ?_)
    · simp only [impl_words.l2]
      have e2 : wrap64 ((i : Int) + 1) = ((i + 1 : Nat) : Int) := by unfold wrap64; omega
      have := ltr_size i
      rw [if_pos (by omega), letter_is i (by omega)]
      simp only [Option.bind_some, e2]
      rw [if_pos (by omega), if_pos (by omega)]
    · rw [List.append_assoc, List.range'_succ] at *
      exact h
theorem iw1 (d : Nat) (hd : d ≤ 3) (x11 x12 : Int) (ws : List ByteArray) (hws : ∀ w ∈ ws, w.size ≤ 20) (hl : ws.length ≤ 3486784401) (r : List ByteArray) (m : Nat) : ∀ (j : Nat) (acc : List ByteArray), j + m = ws.length →
    acc.length + m * d ≤ 8796093022208 →
    Ev (fun k => impl_words.l0 k (d : Int) (acc ++ nextW d (ws.drop j)) x11 (wrap64 (x12 + 1))) r →
    Ev (fun k => impl_words.l1 k (d : Int) acc x11 x12 ws (ws.length : Int) (j : Int)) r := by
  induction m with
  | zero =>
    intro j acc hj _ h
    refine Ev.step (fun k => ?_) h
    simp only [impl_words.l1]
    rw [if_neg (by omega), List.drop_eq_nil_of_le (by omega)]
    simp [nextW]
  | succ m ih =>
    intro j acc hj hb h
    have hlt : j < ws.length := by omega
    have e2 : wrap64 ((j : Int) + 1) = ((j + 1 : Nat) : Int) := by unfold wrap64; omega
    rw [Nat.add_mul] at hb
    have hw : ws[j].size ≤ 20 := hws _ (List.getElem_mem hlt)
    have h2 := iw2 d hd x11 x12 ws[j] hw ws (ws.length : Int) (j : Int) r d 0 acc (by omega) (by omega) (by
      rw [e2]
      refine ih (j + 1) _ (by omega) (by simp; omega) ?_
      rw [List.append_assoc]
      have : List.map (fun q => ws[j] ++ ltr q) (List.range' 0 d) ++ nextW d (ws.drop (j + 1)) = nextW d (ws.drop j) := by
        rw [List.drop_eq_getElem_cons hlt]
        simp only [nextW, List.flatMap_cons, List.range_eq_range']
      rw [this]
      exact h)
    refine Ev.step (fun k => ?_) h2
    simp only [impl_words.l1]
    have e3 : rdOf ByteArray.empty ws (j : Int) = ws[j] := by simp [rdOf, List.getElem?_eq_getElem hlt]
    rw [if_pos (by omega), if_pos (by omega), if_pos (by omega), e3]
    rfl
theorem iw0 (d : Nat) (hd : d ≤ 3) (N : Nat) (n : Nat) : ∀ m : Nat, m + n = N → N ≤ 20 → Ev (fun k => impl_words.l0 k (d : Int) (wordsL d m) (N : Int) (m : Int)) (wordsL d N) := by
  induction n with
  | zero =>
    intro m hm _
    obtain rfl : m = N := by omega
    refine Ev.step (f := fun _ => some (wordsL d m)) (fun k => ?_) (Ev.now _)
    simp only [impl_words.l0]
    rw [if_neg (by omega)]
  | succ n ih =>
    intro m hm hN
    have hb := wordsL_bound (d := d) (n := m) hd (by omega)
    have h1 := iw1 d hd (N : Int) (m : Int) (wordsL d m) (fun w hw => by rw [wordsL_size d m w hw]; omega) hb (wordsL d N) (wordsL d m).length 0 [] (by omega)
      (by have : (wordsL d m).length * d ≤ (wordsL d m).length * 3 := Nat.mul_le_mul_left _ hd
          simp; omega) (by
      have e : wrap64 ((m : Int) + 1) = ((m + 1 : Nat) : Int) := by unfold wrap64; omega
      rw [e]
      simp only [List.nil_append, List.drop_zero]
      exact ih (m + 1) (by omega) hN)
    refine Ev.step (fun k => ?_) h1
    simp only [impl_words.l0]
    rw [if_pos (by omega)]
    rfl
/-- The program's words. -/
theorem impl_words_are (d n : Nat) (hd : d ≤ 3) (hn : n ≤ 20) : Ev (fun k => impl_words.f k (d : Int) (n : Int)) (wordsL d n) := by
  have := iw0 d hd n n 0 (by omega) hn
  exact this

/-- Is it a Lyndon word? -/
def lynB (s : ByteArray) : Bool := (spec_l05Lyndon.f (s.size + 1) s).getD false
theorem lynB_spec (s : ByteArray) (hn : s.size ≤ 140737488351232) : Ev (fun k => spec_l05Lyndon.f k s) (lynB s) := by
  obtain ⟨b, hb⟩ := lyn_ends s hn s.size (s.size + 1) 1 (by omega) (by omega) (by omega)
  have e : lynB s = b := by unfold lynB spec_l05Lyndon.f; rw [hb]; rfl
  rw [e]
  exact Ev.of (fun k => spec_l05Lyndon.mono_l k _ _) hb
theorem lynB_impl (s : ByteArray) (hn : s.size ≤ 140737488351232) : Ev (fun k => impl_isLyndon.f k s) (lynB s) := by
  refine Ev.congr (fun k => ?_) (lynB_spec s hn)
  unfold impl_isLyndon.f spec_l05Lyndon.f
  exact lyn_same k s 1
theorem lynB_empty (s : ByteArray) (h : s.size = 0) : lynB s = false := by
  unfold lynB spec_l05Lyndon.f
  simp only [spec_l05Lyndon.l0]
  rw [if_neg (by omega)]
  simp [h]

theorem nil_iff (s : ByteArray) : s.toList = ([] : List UInt8) ↔ s.size = 0 := by
  rw [ByteArray.toList_eq]
  have : s.size = s.data.toList.length := by simp
  rw [this]
  cases s.data.toList <;> simp
theorem nil_ne {s : ByteArray} (h : s.size ≠ 0) : s.toList ≠ ([] : List UInt8) := fun e => h ((nil_iff s).1 e)
/-- What a word does to the best one. -/
def stepN (w : ByteArray) (st : ByteArray × Bool) (v : ByteArray) : ByteArray × Bool :=
  if Op.bytesLess w.toList v.toList && lynB v && (!st.2 || Op.bytesLess v.toList st.1.toList) then (v, true) else st
def okN (st : ByteArray × Bool) : Prop := st.2 = true ↔ st.1.size ≠ 0
theorem stepN_ok (w : ByteArray) (st : ByteArray × Bool) (v : ByteArray) (h : okN st) : okN (stepN w st v) := by
  unfold stepN
  split
  · rename_i c
    simp only [Bool.and_eq_true] at c
    refine ⟨fun _ => fun e => ?_, fun _ => rfl⟩
    rw [lynB_empty v e] at c
    simp at c
  · exact h
theorem foldN_ok (w : ByteArray) (ws : List ByteArray) : ∀ st, okN st → okN (ws.foldl (stepN w) st) := by
  induction ws with
  | nil => intro st h; exact h
  | cons v ws ih => intro st h; exact ih _ (stepN_ok w st v h)

theorem sn1 (d n : Int) (w : ByteArray) (x10 : Int) (ws : List ByteArray) (hws : ∀ v ∈ ws, v.size ≤ 20) (hl : ws.length ≤ 3486784401) (r : ByteArray × Bool) (m : Nat) : ∀ (j : Nat) (st : ByteArray × Bool), j + m = ws.length →
    Ev (fun k => spec_l05Next.l0 k d n w ((ws.drop j).foldl (stepN w) st).1 ((ws.drop j).foldl (stepN w) st).2 (wrap64 (x10 + 1))) r →
    Ev (fun k => spec_l05Next.l1 k d n w st.1 st.2 x10 ws (j : Int)) r := by
  induction m with
  | zero =>
    intro j st hj h
    refine Ev.step (fun k => ?_) h
    simp only [spec_l05Next.l1]
    rw [if_neg (by omega), List.drop_eq_nil_of_le (by omega)]
    simp
  | succ m ih =>
    intro j st hj h
    have hlt : j < ws.length := by omega
    have e2 : wrap64 ((j : Int) + 1) = ((j + 1 : Nat) : Int) := by unfold wrap64; omega
    have e3 : rdOf ByteArray.empty ws (j : Int) = ws[j] := by simp [rdOf, List.getElem?_eq_getElem hlt]
    have hv : ws[j].size ≤ 20 := hws _ (List.getElem_mem hlt)
    rw [List.drop_eq_getElem_cons hlt, List.foldl_cons] at h
    have h2 := ih (j + 1) (stepN w st ws[j]) (by omega) h
    have hL := lynB_spec ws[j] (by omega)
    have go : ∀ st' : ByteArray × Bool, stepN w st ws[j] = st' → Ev (fun k => spec_l05Next.l1 k d n w st'.1 st'.2 x10 ws ((j + 1 : Nat) : Int)) r := fun st' e => e ▸ h2
    by_cases c1 : Op.bytesLess w.toList ws[j].toList = true
    · by_cases c2 : st.2 = true
      · by_cases c3 : Op.bytesLess ws[j].toList st.1.toList = true
        · refine Ev.step (f := fun k => (spec_l05Lyndon.f k ws[j]).bind fun t => if t = true then spec_l05Next.l1 k d n w ws[j] true x10 ws ((j + 1 : Nat) : Int) else spec_l05Next.l1 k d n w st.1 st.2 x10 ws ((j + 1 : Nat) : Int)) (fun k => ?_) (Ev.bind hL ?_)
          · simp only [spec_l05Next.l1]
            rw [if_pos (by omega), if_pos (by omega), e3, if_pos c1, if_pos c2, if_pos c3, e2]
          · by_cases c4 : lynB ws[j] = true
            · simp only [c4, if_true]
              exact go (ws[j], true) (by unfold stepN; rw [if_pos (by simp [c1, c3, c4])])
            · simp only [c4, if_false]
              exact go st (by unfold stepN; rw [if_neg (by simp [c4])])
        · refine Ev.step (fun k => ?_) (go st (by unfold stepN; rw [if_neg (by simp [c2, c3])]))
          simp only [spec_l05Next.l1]
          rw [if_pos (by omega), if_pos (by omega), e3, if_pos c1, if_pos c2, if_neg c3, e2]
      · refine Ev.step (f := fun k => (spec_l05Lyndon.f k ws[j]).bind fun t => if t = true then spec_l05Next.l1 k d n w ws[j] true x10 ws ((j + 1 : Nat) : Int) else spec_l05Next.l1 k d n w st.1 st.2 x10 ws ((j + 1 : Nat) : Int)) (fun k => ?_) (Ev.bind hL ?_)
        · simp only [spec_l05Next.l1]
          rw [if_pos (by omega), if_pos (by omega), e3, if_pos c1, if_neg c2, e2]
        · by_cases c4 : lynB ws[j] = true
          · simp only [c4, if_true]
            exact go (ws[j], true) (by unfold stepN; rw [if_pos (by simp [c1, c2, c4])])
          · simp only [c4, if_false]
            exact go st (by unfold stepN; rw [if_neg (by simp [c4])])
    · refine Ev.step (fun k => ?_) (go st (by unfold stepN; rw [if_neg (by simp [c1])]))
      simp only [spec_l05Next.l1]
      rw [if_pos (by omega), if_pos (by omega), e3, if_neg c1, e2]

theorem in1 (d n : Int) (w : ByteArray) (x9 : Int) (ws : List ByteArray) (hws : ∀ v ∈ ws, v.size ≤ 20) (hl : ws.length ≤ 3486784401) (r : ByteArray × Int) (m : Nat) : ∀ (j : Nat) (st : ByteArray × Bool), okN st → j + m = ws.length →
    Ev (fun k => impl_NextLyndon.l0 k d n w ((ws.drop j).foldl (stepN w) st).1 (wrap64 (x9 + 1))) r →
    Ev (fun k => impl_NextLyndon.l1 k d n w st.1 x9 ws (ws.length : Int) (j : Int)) r := by
  induction m with
  | zero =>
    intro j st _ hj h
    refine Ev.step (fun k => ?_) h
    simp only [impl_NextLyndon.l1]
    rw [if_neg (by omega), List.drop_eq_nil_of_le (by omega)]
    simp
  | succ m ih =>
    intro j st hok hj h
    have hlt : j < ws.length := by omega
    have e2 : wrap64 ((j : Int) + 1) = ((j + 1 : Nat) : Int) := by unfold wrap64; omega
    have e3 : rdOf ByteArray.empty ws (j : Int) = ws[j] := by simp [rdOf, List.getElem?_eq_getElem hlt]
    have hv : ws[j].size ≤ 20 := hws _ (List.getElem_mem hlt)
    rw [List.drop_eq_getElem_cons hlt, List.foldl_cons] at h
    have h2 := ih (j + 1) (stepN w st ws[j]) (stepN_ok w st _ hok) (by omega) h
    have hL := lynB_impl ws[j] (by omega)
    have go : ∀ st' : ByteArray × Bool, stepN w st ws[j] = st' → Ev (fun k => impl_NextLyndon.l1 k d n w st'.1 x9 ws (ws.length : Int) ((j + 1 : Nat) : Int)) r := fun st' e => e ▸ h2
    by_cases c1 : Op.bytesLess w.toList ws[j].toList = true
    · refine Ev.step (f := fun k => (impl_isLyndon.f k ws[j]).bind fun t => if t = true then (if st.1.toList = ([] : List UInt8) then impl_NextLyndon.l1 k d n w ws[j] x9 ws (ws.length : Int) ((j + 1 : Nat) : Int) else if Op.bytesLess ws[j].toList st.1.toList = true then impl_NextLyndon.l1 k d n w ws[j] x9 ws (ws.length : Int) ((j + 1 : Nat) : Int) else impl_NextLyndon.l1 k d n w st.1 x9 ws (ws.length : Int) ((j + 1 : Nat) : Int)) else impl_NextLyndon.l1 k d n w st.1 x9 ws (ws.length : Int) ((j + 1 : Nat) : Int)) (fun k => ?_) (Ev.bind hL ?_)
      · simp only [impl_NextLyndon.l1]
        rw [if_pos (by omega), if_pos (by omega), if_pos (by omega), e3, if_pos c1, e2]
      · by_cases c4 : lynB ws[j] = true
        · by_cases c5 : st.1.size = 0
          · have c2 : ¬ st.2 = true := fun h => (hok.1 h) c5
            simp only [c4, if_true, (nil_iff _).2 c5]
            exact go (ws[j], true) (by unfold stepN; rw [if_pos (by simp [c1, c2, c4])])
          · have c2 : st.2 = true := hok.2 c5
            simp only [c4, if_true, nil_ne c5, if_false]
            by_cases c3 : Op.bytesLess ws[j].toList st.1.toList = true
            · simp only [c3, if_true]
              exact go (ws[j], true) (by unfold stepN; rw [if_pos (by simp [c1, c3, c4])])
            · simp only [c3]
              exact go st (by unfold stepN; rw [if_neg (by simp [c2, c3])])
        · simp only [c4, if_false]
          exact go st (by unfold stepN; rw [if_neg (by simp [c4])])
    · refine Ev.step (fun k => ?_) (go st (by unfold stepN; rw [if_neg (by simp [c1])]))
      simp only [impl_NextLyndon.l1]
      rw [if_pos (by omega), if_pos (by omega), if_pos (by omega), e3, if_neg c1, e2]

/-- All words of the lengths from a on, m of them. -/
def allN (d : Nat) (w : ByteArray) : Nat → Nat → ByteArray × Bool → ByteArray × Bool
  | _, 0, st => st
  | a, m + 1, st => allN d w (a + 1) m ((wordsL d a).foldl (stepN w) st)
theorem sn0 (d : Nat) (hd : d ≤ 3) (n : Nat) (hn : n ≤ 8) (w : ByteArray) (m : Nat) : ∀ (a : Nat) (st : ByteArray × Bool), a + m = n + 1 →
    Ev (fun k => spec_l05Next.l0 k (d : Int) (n : Int) w st.1 st.2 (a : Int)) (allN d w a m st) := by
  induction m with
  | zero =>
    intro a st ha
    refine Ev.step (f := fun _ => some (st.1, st.2)) (fun k => ?_) (Ev.now _)
    simp only [spec_l05Next.l0]
    rw [if_neg (by omega)]
  | succ m ih =>
    intro a st ha
    have hb := wordsL_bound (d := d) (n := a) hd (by omega)
    have e : wrap64 ((a : Int) + 1) = ((a + 1 : Nat) : Int) := by unfold wrap64; omega
    have h1 := sn1 (d : Int) (n : Int) w (a : Int) (wordsL d a) (fun v hv => by rw [wordsL_size d a v hv]; omega) hb _ (wordsL d a).length 0 st (by omega) (by
      rw [e, List.drop_zero]; exact ih (a + 1) ((wordsL d a).foldl (stepN w) st) (by omega))
    refine Ev.step (f := fun k => (spec_l01Words.f k (d : Int) (a : Int)).bind fun t => spec_l05Next.l1 k (d : Int) (n : Int) w st.1 st.2 (a : Int) t 0) (fun k => ?_) (Ev.bind (spec_words d a hd (by omega)) h1)
    simp only [spec_l05Next.l0]
    rw [if_pos (by omega)]
theorem in0 (d : Nat) (hd : d ≤ 3) (n : Nat) (hn : n ≤ 8) (w : ByteArray) (m : Nat) : ∀ (a : Nat) (st : ByteArray × Bool), okN st → a + m = n + 1 →
    Ev (fun k => impl_NextLyndon.l0 k (d : Int) (n : Int) w st.1 (a : Int)) (if (allN d w a m st).2 = true then ((allN d w a m st).1, 0) else ((⟨#[]⟩ : ByteArray), 4)) := by
  induction m with
  | zero =>
    intro a st hok ha
    refine Ev.step (f := fun _ => some (if st.2 = true then (st.1, 0) else ((⟨#[]⟩ : ByteArray), 4))) (fun k => ?_) (Ev.now _)
    simp only [impl_NextLyndon.l0]
    rw [if_neg (by omega)]
    by_cases c : st.1.size = 0
    · rw [if_pos ((nil_iff _).2 c), if_neg (fun h => hok.1 h c)]
    · rw [if_neg (nil_ne c), if_pos (hok.2 c)]
  | succ m ih =>
    intro a st hok ha
    have hb := wordsL_bound (d := d) (n := a) hd (by omega)
    have e : wrap64 ((a : Int) + 1) = ((a + 1 : Nat) : Int) := by unfold wrap64; omega
    have h1 := in1 (d : Int) (n : Int) w (a : Int) (wordsL d a) (fun v hv => by rw [wordsL_size d a v hv]; omega) hb _ (wordsL d a).length 0 st hok (by omega) (by
      rw [e, List.drop_zero]; exact ih (a + 1) ((wordsL d a).foldl (stepN w) st) (foldN_ok w _ st hok) (by omega))
    refine Ev.step (f := fun k => (impl_words.f k (d : Int) (a : Int)).bind fun t => impl_NextLyndon.l1 k (d : Int) (n : Int) w st.1 (a : Int) t (t.length : Int) 0) (fun k => ?_) (Ev.bind (impl_words_are d a hd (by omega)) h1)
    simp only [impl_NextLyndon.l0]
    rw [if_pos (by omega)]
/-- Both find the same next word. -/
theorem next_both (d n : Int) (w : ByteArray) (hd : 1 ≤ d ∧ d ≤ 3) (hn : 1 ≤ n ∧ n ≤ 8) : ∃ r : ByteArray × Int, Ev (fun k => spec_NextLyndon.j0 k d n w false) r ∧ Ev (fun k => impl_NextLyndon.j0 k d n w false) r := by
  obtain ⟨d, rfl⟩ : ∃ q : Nat, d = (q : Int) := ⟨d.toNat, by omega⟩
  obtain ⟨n, rfl⟩ : ∃ q : Nat, n = (q : Int) := ⟨n.toNat, by omega⟩
  have ok0 : okN ((⟨#[]⟩ : ByteArray), false) := ⟨fun h => by simp at h, fun h => absurd rfl h⟩
  have hs : Ev (fun k => spec_l05Next.f k (d : Int) (n : Int) w) (allN d w 1 n ((⟨#[]⟩ : ByteArray), false)) := sn0 d (by omega) n (by omega) w n 1 ((⟨#[]⟩ : ByteArray), false) (by omega)
  refine ⟨if (allN d w 1 n ((⟨#[]⟩ : ByteArray), false)).2 = true then ((allN d w 1 n ((⟨#[]⟩ : ByteArray), false)).1, 0) else ((⟨#[]⟩ : ByteArray), 4), ?_, ?_⟩
  · refine Ev.step (f := fun k => (spec_l05Next.f k (d : Int) (n : Int) w).bind fun bt => if bt.2 = true then some (bt.1, 0) else some ((⟨#[]⟩ : ByteArray), 4)) (fun k => ?_) (Ev.bind hs ?_)
    · simp only [spec_NextLyndon.j0]; simp
    · refine Ev.congr (fun k => ?_) (Ev.now _)
      split <;> rfl
  · refine Ev.step (fun k => ?_) (in0 d (by omega) n (by omega) w n 1 _ ok0 (by omega))
    simp only [impl_NextLyndon.j0]; simp

theorem FnExactNextLyndon : laws_FnExactNextLyndon.Pure := by
  intro d n s _ _ hn
  by_cases hbig : (s.size : Int) > 1048576
  · exact ⟨0, by unfold laws_FnExactNextLyndon.f; rw [if_pos hbig]⟩
  obtain ⟨K1, b1, h1⟩ := short_same d s hn
  unfold laws_FnExactNextLyndon.f spec_NextLyndon.f impl_NextLyndon.f spec_l01In.f impl_within.f
  simp only [if_neg hbig]
  cases b1 with
  | false =>
    refine ⟨K1 + 1, ?_⟩
    have g1 := h1 (K1 + 1) (by omega)
    simp only [g1.1, g1.2, Option.bind_some, spec_NextLyndon.j0, impl_NextLyndon.j0]
    try simp
  | true =>
    by_cases c1 : n ≥ 1
    · by_cases c2 : n ≤ 8
      · have hd : 1 ≤ d ∧ d ≤ 3 := by
          have := (h1 K1 (Nat.le_refl _)).1
          unfold spec_l05Word.f spec_l01In.f at this
          by_cases e1 : d ≥ 1
          · by_cases e2 : d ≤ 3
            · exact ⟨e1, e2⟩
            · simp [e1, e2] at this
          · simp [e1] at this
        obtain ⟨r, ⟨K2, h2⟩, ⟨K3, h3⟩⟩ := next_both d n s hd ⟨c1, c2⟩
        refine ⟨max K1 (max K2 K3), ?_⟩
        have g1 := h1 (max K1 (max K2 K3)) (by omega)
        have g2 := h2 (max K1 (max K2 K3)) (by omega)
        have g3 := h3 (max K1 (max K2 K3)) (by omega)
        simp only [g1.1, g1.2, Option.bind_some, c1, c2, if_true, decide_true, Bool.not_true, g2, g3]
        try simp
      · refine ⟨K1 + 1, ?_⟩
        have g1 := h1 (K1 + 1) (by omega)
        simp only [g1.1, g1.2, Option.bind_some, c1, c2, if_true, decide_false, Bool.not_false, spec_NextLyndon.j0, impl_NextLyndon.j0]
        try simp
    · refine ⟨K1 + 1, ?_⟩
      have g1 := h1 (K1 + 1) (by omega)
      simp only [g1.1, g1.2, Option.bind_some, c1, if_true, if_false, Bool.not_false, spec_NextLyndon.j0, impl_NextLyndon.j0]
      try simp

end Go.Proofs.Ytdpbfjmjbhmobaa.Pure
