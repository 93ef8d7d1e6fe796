/- FnExactParseBracket: for every number of letters and every text, the program's ParseBracket answers what the reference's answers. No condition. -/
import Derived.Test.YtmijbppapjcfkaaQFnExactParseBracketx3
namespace Go.Proofs.Ytmijbppapjcfkaa.Pure
open Go.RowKit Go.Proofs.Ytmijbppapjcfkaa.PFnExactParseBracket Go.Proofs.YtmijbppapjcfkaaW.PrintWords Go.Proofs.YtmijbppapjcfkaaW.PrintLast
set_option linter.unusedSimpArgs false
set_option linter.unusedVariables false

theorem w64 {x : Int} (h0 : -9223372036854775808 ≤ x) (h1 : x ≤ 9223372036854775807) : wrap64 x = x := by unfold wrap64; omega

theorem word_ends (d : Int) (s : ByteArray) (hn : s.size ≤ 140737488351232) (n : Nat) : ∀ (k : Nat) (i : Int), 0 ≤ i → i ≤ s.size → (s.size : Int) - i = n → n < k →
    ∃ b, spec_l01Word.l0 k d s i = some b := by
  induction n with
  | zero =>
    intro k i h0 h1 hd hk
    obtain ⟨k, rfl⟩ : ∃ m, k = m + 1 := ⟨k - 1, by omega⟩
    exact ⟨true, by simp only [spec_l01Word.l0]; rw [if_neg (by omega)]⟩
  | succ n ih =>
    intro k i h0 h1 hd hk
    obtain ⟨k, rfl⟩ : ∃ m, k = m + 1 := ⟨k - 1, by omega⟩
    simp only [spec_l01Word.l0]
    rw [if_pos (by omega), if_pos h0]
    split
    · exact ⟨_, rfl⟩
    · split
      · exact ⟨_, rfl⟩
      · rw [w64 (by omega) (by omega)]
        exact ih k (i + 1) (by omega) (by omega) (by omega) (by omega)

theorem word_same (d m : Int) (s : ByteArray) (hn : s.size ≤ 140737488351232) (hd0 : 1 ≤ d) (hd1 : d ≤ 3) : ∀ (k : Nat) (i : Int) (b : Bool), 0 ≤ i → i ≤ s.size →
    spec_l01Word.l0 k d s i = some b → impl_isWord.l0 k d s m (s.size : Int) i = some (b && decide ((s.size : Int) ≤ m)) := by
  intro k
  induction k with
  | zero => intro i b _ _ h; simp [spec_l01Word.l0] at h
  | succ k ih =>
    intro i b h0 h1 h
    have hb := bt_range s i
    simp only [spec_l01Word.l0] at h
    simp only [impl_isWord.l0]
    by_cases c : i < (s.size : Int)
    · rw [if_pos c, if_pos h0] at h
      rw [if_pos c, if_pos h0, if_pos c, w64 (x := bt s i) (by omega) (by omega), w64 (x := 48 + d) (by omega) (by omega)]
      by_cases c2 : bt s i < 48
      · rw [if_pos c2] at h ⊢
        obtain rfl := Option.some.inj h
        simp
      · rw [if_neg c2] at h ⊢
        rw [Int.emod_eq_of_lt (by omega) (by omega)] at h
        by_cases c3 : bt s i - 48 ≥ d
        · rw [if_pos c3] at h
          rw [if_pos (by omega)]
          obtain rfl := Option.some.inj h
          simp
        · rw [if_neg c3] at h
          rw [if_neg (by omega)]
          rw [w64 (x := i + 1) (by omega) (by omega)] at h ⊢
          exact ih (i + 1) b (by omega) (by omega) h
    · rw [if_neg c] at h ⊢
      obtain rfl := Option.some.inj h
      simp

/-- Both look at a short word alike. -/
theorem short_same (d : Int) (s : ByteArray) (hn : s.size ≤ 140737488351232) : ∃ (K : Nat) (b : Bool), ∀ k, K ≤ k → spec_l05Word.f k d s 8 = some b ∧ impl_isShort.f k d s = some b := by
  unfold spec_l05Word.f impl_isShort.f spec_l01In.f impl_areLetters.f impl_within.f
  by_cases c1 : d ≥ 1
  · by_cases c2 : d ≤ 3
    · obtain ⟨b, hb⟩ := word_ends d s hn s.size (s.size + 1) 0 (by omega) (by omega) (by omega) (by omega)
      refine ⟨s.size + 1, b && decide ((s.size : Int) ≤ 8), fun k hk => ?_⟩
      have hb' : spec_l01Word.l0 k d s 0 = some b := at_rounds (fun k => spec_l01Word.mono_l k _ _ _) hk hb
      have hi := word_same d 8 s hn (by omega) c2 k 0 b (by omega) (by omega) hb'
      simp only [c1, c2, if_true, decide_true, Option.bind_some, spec_l01Word.f, impl_isWord.f, hb', hi]
      by_cases c3 : (s.size : Int) ≤ 8 <;> simp [c3]
    · exact ⟨0, false, fun k _ => by simp [c1, c2]⟩
  · exact ⟨0, false, fun k _ => by simp [c1]⟩

theorem lyn_same : ∀ (k : Nat) (s : ByteArray) (i : Int), impl_isLyndon.l0 k s i = spec_l05Lyndon.l0 k s i := by
  intro k
  induction k with
  | zero => intro s i; rfl
  | succ k ih =>
    intro s i
    simp only [spec_l05Lyndon.l0, impl_isLyndon.l0, ih]
    have e : (s.toList != ([] : List UInt8)) = decide ((s.size : Int) > 0) := by
      rw [ByteArray.toList_eq, Bool.eq_iff_iff]
      simp only [bne_iff_ne, ne_eq, decide_eq_true_eq]
      have : s.size = s.data.toList.length := by simp
      rw [this]
      cases s.data.toList <;> simp
    rw [e]

theorem lyn_ends (s : ByteArray) (hn : s.size ≤ 140737488351232) (n : Nat) : ∀ (k : Nat) (i : Int), 0 ≤ i → (s.size : Int) - i ≤ n → n < k →
    ∃ b, spec_l05Lyndon.l0 k s i = some b := by
  induction n with
  | zero =>
    intro k i h0 hd hk
    obtain ⟨k, rfl⟩ : ∃ m, k = m + 1 := ⟨k - 1, by omega⟩
    simp only [spec_l05Lyndon.l0]; rw [if_neg (by omega)]; exact ⟨_, rfl⟩
  | succ n ih =>
    intro k i h0 hd hk
    obtain ⟨k, rfl⟩ : ∃ m, k = m + 1 := ⟨k - 1, by omega⟩
    simp only [spec_l05Lyndon.l0]
    by_cases c : i < (s.size : Int)
    · rw [if_pos c, if_pos h0, if_pos (by omega)]
      split
      · rw [w64 (by omega) (by omega)]
        exact ih k (i + 1) (by omega) (by omega) (by omega)
      · exact ⟨_, rfl⟩
    · rw [if_neg c]; exact ⟨_, rfl⟩

/-- Both tell a Lyndon word alike. -/
theorem lyndon_same (s : ByteArray) (hn : s.size ≤ 140737488351232) : ∃ (K : Nat) (b : Bool), ∀ k, K ≤ k → spec_l05Lyndon.f k s = some b ∧ impl_isLyndon.f k s = some b := by
  obtain ⟨b, hb⟩ := lyn_ends s hn s.size (s.size + 1) 1 (by omega) (by omega) (by omega)
  refine ⟨s.size + 1, b, fun k hk => ?_⟩
  have hb' : spec_l05Lyndon.l0 k s 1 = some b := at_rounds (fun k => spec_l05Lyndon.mono_l k _ _) hk hb
  exact ⟨hb', by unfold impl_isLyndon.f; rw [lyn_same]; exact hb'⟩

theorem ext_size (s : ByteArray) (i j : Nat) : (s.extract i j).size = min j s.size - i := by simp [ByteArray.size_extract]

theorem cut_same : ∀ (k : Nat) (s : ByteArray) (i : Int), impl_cut.l0 k s i = (spec_l05Cut.l0 k s i).map (fun j => (s.extract 0 j.toNat, s.extract j.toNat s.size)) := by
  intro k
  induction k with
  | zero => intro s i; rfl
  | succ k ih =>
    intro s i
    simp only [spec_l05Cut.l0, impl_cut.l0, ih]
    split
    · split
      · unfold impl_isLyndon.f spec_l05Lyndon.f
        rw [lyn_same]
        cases spec_l05Lyndon.l0 k (s.extract i.toNat s.size) 1 with
        | none => rfl
        | some b => cases b <;> simp
      · rfl
    · rfl

/-- The last letter alone is a Lyndon word. -/
theorem lyn_one (s : ByteArray) (h : s.size = 1) (k : Nat) (hk : 0 < k) : spec_l05Lyndon.f k s = some true := by
  obtain ⟨k, rfl⟩ : ∃ m, k = m + 1 := ⟨k - 1, by omega⟩
  unfold spec_l05Lyndon.f
  simp only [spec_l05Lyndon.l0]
  rw [if_neg (by omega)]
  simp [h]

theorem cut_ends (s : ByteArray) (hn : s.size ≤ 140737488351232) (n : Nat) : ∀ (i : Int), 1 ≤ i → i < s.size → (s.size : Int) - i ≤ n →
    ∃ k j, spec_l05Cut.l0 k s i = some j ∧ 1 ≤ j ∧ j < s.size := by
  induction n with
  | zero => intro i h0 h1 hd; omega
  | succ n ih =>
    intro i h0 h1 hd
    obtain ⟨K, b, hb⟩ := lyndon_same (s.extract i.toNat s.size) (by rw [ext_size]; omega)
    cases b with
    | true =>
      refine ⟨K + 1, i, ?_, h0, h1⟩
      simp only [spec_l05Cut.l0]
      rw [if_pos (by omega), if_pos (by omega), (hb K (Nat.le_refl _)).1]
      simp
    | false =>
      by_cases hl : i + 1 < s.size
      · obtain ⟨k, j, hk, hj⟩ := ih (i + 1) (by omega) hl (by omega)
        refine ⟨max K k + 1, j, ?_, hj⟩
        simp only [spec_l05Cut.l0]
        rw [if_pos (by omega), if_pos (by omega), (hb (max K k) (by omega)).1]
        simp only [Option.bind_some]
        rw [if_neg (by simp), w64 (by omega) (by omega)]
        exact at_rounds (fun k => spec_l05Cut.mono_l k _ _) (by omega) hk
      · exfalso
        have h2 := (hb (K + 1) (by omega)).1
        rw [lyn_one _ (by rw [ext_size]; omega) _ (by omega)] at h2
        simp at h2

/-- Both cut a text with two letters or more alike. -/
theorem cut_both (s : ByteArray) (hn : s.size ≤ 140737488351232) (h2 : 2 ≤ s.size) : ∃ (K : Nat) (j : Int), 1 ≤ j ∧ j < s.size ∧ ∀ k, K ≤ k →
    spec_l05Cut.f k s = some j ∧ impl_cut.f k s = some (s.extract 0 j.toNat, s.extract j.toNat s.size) := by
  obtain ⟨K, j, hk, h0, h1⟩ := cut_ends s hn s.size 1 (by omega) (by omega) (by omega)
  refine ⟨K, j, h0, h1, fun k hK => ?_⟩
  have h : spec_l05Cut.l0 k s 1 = some j := at_rounds (fun k => spec_l05Cut.mono_l k _ _) hK hk
  exact ⟨h, by unfold impl_cut.f; rw [cut_same, h]; rfl⟩

theorem bracket_ends (n : Nat) : ∀ s : ByteArray, s.size ≤ n → 1 ≤ s.size → s.size ≤ 1048576 →
    ∃ (K : Nat) (r : ByteArray), r.size + 3 ≤ 4 * s.size ∧ ∀ k, K ≤ k → spec_l05Bracket.f k s = some r ∧ impl_bracketText.f k s = some r := by
  induction n with
  | zero => intro s h0 h1 _; omega
  | succ n ih =>
    intro s h0 h1 hm
    by_cases c : (s.size : Int) = 1
    · refine ⟨1, s, by omega, fun k hk => ?_⟩
      obtain ⟨k, rfl⟩ : ∃ m, k = m + 1 := ⟨k - 1, by omega⟩
      simp only [spec_l05Bracket.f, impl_bracketText.f]
      rw [if_pos c, if_pos c]; exact ⟨rfl, rfl⟩
    · obtain ⟨Kc, j, hj0, hj1, hc⟩ := cut_both s (by omega) (by omega)
      have e1 : (s.extract 0 j.toNat).size = j.toNat := by rw [ext_size]; omega
      have e2 : (s.extract j.toNat s.size).size = s.size - j.toNat := by rw [ext_size]; omega
      obtain ⟨K1, r1, hr1, h1⟩ := ih (s.extract 0 j.toNat) (by omega) (by omega) (by omega)
      obtain ⟨K2, r2, hr2, h2⟩ := ih (s.extract j.toNat s.size) (by omega) (by omega) (by omega)
      refine ⟨max Kc (max K1 K2) + 1, ((((⟨#[91]⟩ : ByteArray) ++ r1) ++ (⟨#[44]⟩ : ByteArray)) ++ r2) ++ (⟨#[93]⟩ : ByteArray), ?_, fun k hk => ?_⟩
      · have : (⟨#[91]⟩ : ByteArray).size = 1 := rfl
        have : (⟨#[44]⟩ : ByteArray).size = 1 := rfl
        have : (⟨#[93]⟩ : ByteArray).size = 1 := rfl
        simp only [ByteArray.size_append]; omega
      · obtain ⟨k, rfl⟩ : ∃ m, k = m + 1 := ⟨k - 1, by omega⟩
        have g1 := h1 k (by omega)
        have g2 := h2 k (by omega)
        have gc := hc k (by omega)
        have z1 : (⟨#[91]⟩ : ByteArray).size = 1 := rfl
        have z2 : (⟨#[44]⟩ : ByteArray).size = 1 := rfl
        constructor
        · simp only [spec_l05Bracket.f]
          rw [if_neg c, gc.1]
          simp only [Option.bind_some]
          rw [if_pos (by omega), if_pos (by omega), g1.1]
          simp only [Option.bind_some]
          rw [if_pos (by omega), if_pos (by simp only [ByteArray.size_append]; omega), g2.1]
          simp only [Option.bind_some]
          rw [if_pos (by simp only [ByteArray.size_append]; omega), if_pos (by simp only [ByteArray.size_append]; omega)]
        · simp only [impl_bracketText.f]
          rw [if_neg c, gc.2]
          simp only [Option.bind_some]
          rw [g1.2]
          simp only [Option.bind_some]
          rw [if_pos (by omega), if_pos (by simp only [ByteArray.size_append]; omega), g2.2]
          simp only [Option.bind_some]
          rw [if_pos (by simp only [ByteArray.size_append]; omega), if_pos (by simp only [ByteArray.size_append]; omega)]

theorem bracket_both (s : ByteArray) (h1 : 1 ≤ s.size) (hm : s.size ≤ 1048576) : ∃ (K : Nat) (r : ByteArray), ∀ k, K ≤ k → spec_l05Bracket.f k s = some r ∧ impl_bracketText.f k s = some r := by
  obtain ⟨K, r, _, h⟩ := bracket_ends s.size s (Nat.le_refl _) h1 hm
  exact ⟨K, r, h⟩

theorem idx_iff (c : UInt8) : Lib.indexByte [91, 44, 93] c < 0 ↔ c ≠ 91 ∧ c ≠ 44 ∧ c ≠ 93 := by
  by_cases c1 : c = 91
  · subst c1; decide
  · by_cases c2 : c = 44
    · subst c2; decide
    · by_cases c3 : c = 93
      · subst c3; decide
      · have h1 : ((91 : UInt8) == c) = false := by rw [beq_eq_false_iff_ne]; exact fun h => c1 h.symm
        have h2 : ((44 : UInt8) == c) = false := by rw [beq_eq_false_iff_ne]; exact fun h => c2 h.symm
        have h3 : ((93 : UInt8) == c) = false := by rw [beq_eq_false_iff_ne]; exact fun h => c3 h.symm
        have e : Lib.indexByte [91, 44, 93] c = -1 := by simp [Lib.indexByte, h1, h2, h3]
        rw [e]
        exact ⟨fun _ => ⟨c1, c2, c3⟩, fun _ => by omega⟩
theorem bt_is (s : ByteArray) (i : Nat) (h : i < s.data.toList.length) : bt s (i : Int) = (s.data.toList[i].toNat : Int) := by
  have hs : i < s.size := by rw [Array.length_toList] at h; exact h
  unfold bt
  rw [Int.toNat_natCast, dif_pos hs]
  rfl
theorem u8_ne {c : UInt8} {n : UInt8} (h : c ≠ n) : ¬ ((c.toNat : Int) = (n.toNat : Int)) := fun hh => h (UInt8.toNat_inj.1 (by omega))
theorem extr_one (s : ByteArray) (i : Nat) (h : i < s.data.toList.length) : s.extract i (i + 1) = ⟨[s.data.toList[i]].toArray⟩ := by
  apply ByteArray.ext
  rw [ByteArray.data_extract]
  apply Array.toList_inj.1
  rw [Array.toList_extract]
  simp only [List.extract_eq_take_drop, Nat.add_sub_cancel_left]
  rw [List.drop_eq_getElem_cons h]
  rfl
theorem tails (d : Int) (s wd : ByteArray) (hw : wd.size ≤ 1048576) : ∃ r : ByteArray × Int, Ev (fun k => (spec_l05Word.f k d wd 8).bind fun t108 => (if t108 = true then ((spec_l05Lyndon.f k wd).bind fun t109 => (if t109 = true then ((spec_l05Bracket.f k wd).bind fun t110 => (if t110.toList = s.toList then (some (wd, 0)) else (some ((⟨#[]⟩ : ByteArray), 6)))) else (some ((⟨#[]⟩ : ByteArray), 6)))) else (some ((⟨#[]⟩ : ByteArray), 6)))) r ∧
    Ev (fun k => (impl_isShort.f k d wd).bind fun t2 => if t2 = true then (impl_isLyndon.f k wd).bind fun t3 => if t3 = true then (impl_bracketText.f k wd).bind fun t4 => if t4 = s then some (wd, 0) else some (⟨#[]⟩, 6) else some (⟨#[]⟩, 6) else some (⟨#[]⟩, 6)) r := by
  obtain ⟨K1, b1, h1⟩ := short_same d wd (by omega)
  obtain ⟨K2, b2, h2⟩ := lyndon_same wd (by omega)
  have hs1 : Ev (fun k => spec_l05Word.f k d wd 8) b1 := ⟨K1, fun k hk => (h1 k hk).1⟩
  have hi1 : Ev (fun k => impl_isShort.f k d wd) b1 := ⟨K1, fun k hk => (h1 k hk).2⟩
  have hs2 : Ev (fun k => spec_l05Lyndon.f k wd) b2 := ⟨K2, fun k hk => (h2 k hk).1⟩
  have hi2 : Ev (fun k => impl_isLyndon.f k wd) b2 := ⟨K2, fun k hk => (h2 k hk).2⟩
  cases b1 with
  | false => exact ⟨_, Ev.bind hs1 (Ev.now _), Ev.bind hi1 (Ev.now _)⟩
  | true =>
    cases b2 with
    | false => exact ⟨_, Ev.bind hs1 (Ev.bind hs2 (Ev.now _)), Ev.bind hi1 (Ev.bind hi2 (Ev.now _))⟩
    | true =>
      have h0 : 1 ≤ wd.size := by
        by_cases h0 : wd.size = 0
        · have := (h2 (K2 + 1) (by omega)).1
          unfold spec_l05Lyndon.f at this
          simp only [spec_l05Lyndon.l0] at this
          rw [if_neg (by omega)] at this
          simp [h0] at this
        · omega
      obtain ⟨K3, r, h3⟩ := bracket_both wd h0 hw
      have hs3 : Ev (fun k => spec_l05Bracket.f k wd) r := ⟨K3, fun k hk => (h3 k hk).1⟩
      have hi3 : Ev (fun k => impl_bracketText.f k wd) r := ⟨K3, fun k hk => (h3 k hk).2⟩
      by_cases c : r = s
      · exact ⟨(wd, 0), Ev.bind hs1 (Ev.bind hs2 (Ev.bind hs3 (Ev.congr (fun _ => if_pos (by rw [c])) (Ev.now _)))), Ev.bind hi1 (Ev.bind hi2 (Ev.bind hi3 (Ev.congr (fun _ => if_pos c) (Ev.now _))))⟩
      · have c' : ¬ r.toList = s.toList := fun hh => c (by
          rw [ByteArray.toList_eq, ByteArray.toList_eq] at hh
          exact ByteArray.ext (Array.toList_inj.1 hh))
        exact ⟨(⟨#[]⟩, 6), Ev.bind hs1 (Ev.bind hs2 (Ev.bind hs3 (Ev.congr (fun _ => if_neg c') (Ev.now _)))), Ev.bind hi1 (Ev.bind hi2 (Ev.bind hi3 (Ev.congr (fun _ => if_neg c) (Ev.now _))))⟩
def upW (s : ByteArray) (i : Nat) : ByteArray := ⟨(impl_ParseBracket.keepB (s.data.toList.take i)).toArray⟩
theorem upW_size (s : ByteArray) (i : Nat) : (upW s i).size ≤ i := by
  have h1 := impl_ParseBracket.keep_len (s.data.toList.take i)
  have h2 : (s.data.toList.take i).length ≤ i := by rw [List.length_take]; exact Nat.min_le_left _ _
  show (impl_ParseBracket.keepB (s.data.toList.take i)).toArray.size ≤ i
  rw [List.size_toArray]
  omega
theorem spec_loop (d : Int) (s : ByteArray) (hs : s.size ≤ 1048576) (r : ByteArray × Int) (hr : Ev (fun k => (spec_l05Word.f k d (upW s s.size) 8).bind fun t108 => (if t108 = true then ((spec_l05Lyndon.f k (upW s s.size)).bind fun t109 => (if t109 = true then ((spec_l05Bracket.f k (upW s s.size)).bind fun t110 => (if t110.toList = s.toList then (some ((upW s s.size), 0)) else (some ((⟨#[]⟩ : ByteArray), 6)))) else (some ((⟨#[]⟩ : ByteArray), 6)))) else (some ((⟨#[]⟩ : ByteArray), 6)))) r) (m : Nat) : ∀ i : Nat, i + m = s.size →
    Ev (fun k => spec_ParseBracket.l0 k d s (upW s i) (i : Int)) r := by
  induction m with
  | zero =>
    intro i hi
    obtain rfl : i = s.size := by omega
    refine Ev.step (fun k => ?_) hr
    simp only [spec_ParseBracket.l0]
    rw [if_neg (by omega)]
  | succ m ih =>
    intro i hi
    have hl : s.data.toList.length = s.size := by rw [Array.length_toList]; rfl
    have hlt : i < s.data.toList.length := by omega
    have hb := bt_is s i hlt
    have hk := impl_ParseBracket.keep_succ s.data.toList hlt
    have hw : wrap64 ((i : Int) + 1) = ((i + 1 : Nat) : Int) := by rw [w64 (by omega) (by omega)]; rfl
    have ih1 := ih (i + 1) (by omega)
    have hsz := upW_size s i
    refine Ev.step (fun k => ?_) ih1
    simp only [spec_ParseBracket.l0]
    rw [if_pos (by omega), if_pos (by omega), hb, hw]
    by_cases c : Lib.indexByte [91, 44, 93] s.data.toList[i] < 0
    · obtain ⟨c1, c2, c3⟩ := (idx_iff _).1 c
      rw [if_neg (show ¬ ((s.data.toList[i].toNat : Int) = 91) from u8_ne c1), if_neg (show ¬ ((s.data.toList[i].toNat : Int) = 44) from u8_ne c2), if_neg (show ¬ ((s.data.toList[i].toNat : Int) = 93) from u8_ne c3), if_pos (by omega), if_pos (by omega), Int.toNat_natCast, Int.toNat_natCast, extr_one s i hlt]
      have e : upW s i ++ ⟨[s.data.toList[i]].toArray⟩ = upW s (i + 1) := by
        unfold upW
        rw [hk, if_pos c]
        apply ByteArray.ext
        rw [ByteArray.data_append]
        apply Array.toList_inj.1
        rw [Array.toList_append]
      rw [e, if_pos (by
        have : (⟨[s.data.toList[i]].toArray⟩ : ByteArray).size = 1 := rfl
        omega)]
    · have e : upW s i = upW s (i + 1) := by
        unfold upW
        rw [hk, if_neg c, List.append_nil]
      rw [e]
      by_cases c1 : s.data.toList[i] = 91
      · rw [if_pos (by rw [c1]; rfl)]
      · rw [if_neg (show ¬ ((s.data.toList[i].toNat : Int) = 91) from u8_ne c1)]
        by_cases c2 : s.data.toList[i] = 44
        · rw [if_pos (by rw [c2]; rfl)]
        · rw [if_neg (show ¬ ((s.data.toList[i].toNat : Int) = 44) from u8_ne c2)]
          by_cases c3 : s.data.toList[i] = 93
          · rw [if_pos (by rw [c3]; rfl)]
          · exact absurd ((idx_iff _).2 ⟨c1, c2, c3⟩) c
theorem letters_same (d : Int) : ∃ b, spec_l01In.f d 1 3 = some b ∧ impl_areLetters.f d = some b := by
  unfold spec_l01In.f impl_areLetters.f impl_within.f
  by_cases h : d ≥ 1
  · rw [if_pos h]; exact ⟨_, rfl, rfl⟩
  · rw [if_neg h]; exact ⟨_, rfl, rfl⟩
theorem FnExactParseBracket : laws_FnExactParseBracket.Pure := by
  intro d s _ hn
  by_cases hbig : (s.size : Int) > 1048576
  · exact ⟨0, by unfold laws_FnExactParseBracket.f; rw [if_pos hbig]⟩
  have hs : s.size ≤ 1048576 := by omega
  have hl : s.data.toList.length = s.size := by rw [Array.length_toList]; rfl
  have hw : impl_ParseBracket.word s = upW s s.size := by unfold impl_ParseBracket.word upW; rw [← hl, List.take_length]
  obtain ⟨r, hsp, him⟩ := tails d s (upW s s.size) (Nat.le_trans (upW_size s _) hs)
  obtain ⟨b, hb1, hb2⟩ := letters_same d
  have both : ∃ q : ByteArray × Int, Ev (fun k => spec_ParseBracket.f k d s) q ∧ Ev (fun k => impl_ParseBracket.f k d s) q := by
    unfold spec_ParseBracket.f impl_ParseBracket.f
    simp only [hb1, hb2, Option.bind_some, if_pos hs, hw]
    cases b with
    | false => exact ⟨(⟨#[]⟩, 2), Ev.now _, Ev.now _⟩
    | true =>
      refine ⟨r, ?_, him⟩
      have := spec_loop d s hs r hsp s.size 0 (by omega)
      exact this
  obtain ⟨q, q1, q2⟩ := both
  unfold laws_FnExactParseBracket.f
  refine Ev.rounds (Ev.congr (fun _ => if_neg hbig) (Ev.bind q1 (Ev.bind q2 ?_)))
  refine Ev.congr (fun _ => if_pos rfl) ?_
  exact Ev.congr (fun _ => if_pos rfl) (Ev.now _)

end Go.Proofs.Ytmijbppapjcfkaa.Pure
