/- FnExactBracketText: for every number of letters and every text, the program's BracketText answers what the reference's answers. No condition. -/
import Derived.Test.YtdpbfjmjbhmobaaQFnExactBracketTextx2
namespace Go.Proofs.Ytdpbfjmjbhmobaa.Pure
open Go.RowKit Go.Proofs.Ytdpbfjmjbhmobaa.PFnExactBracketText Go.Proofs.YtdpbfjmjbhmobaaW.PrintWords Go.Proofs.YtdpbfjmjbhmobaaW.PrintLast

theorem w64 {x : Int} (h0 : -9223372036854775808 ≤ x) (h1 : x ≤ 9223372036854775807) : wrap64 x = x := by unfold wrap64; omega

theorem word_ends (d : Int) (s : ByteArray) (hn : s.size ≤ 140737488351232) (n : Nat) : ∀ (k : Nat) (i : Int), 0 ≤ i → i ≤ s.size → (s.size : Int) - i = n → n < k →
    ∃ b, spec_l01Word.l0 k d s i = some b := by
  induction n with
  | zero =>
    intro k i h0 h1 hd hk
    obtain ⟨k, rfl⟩ : ∃ m, k = m + 1 := ⟨k - 1, by omega⟩
    exact ⟨true, by simp only [spec_l01Word.l0]; rw [if_neg (by omega)]⟩
  | succ n ih =>
    intro k i h0 h1 hd hk
    obtain ⟨k, rfl⟩ : ∃ m, k = m + 1 := ⟨k - 1, by omega⟩
    simp only [spec_l01Word.l0]
    rw [if_pos (by omega), if_pos h0]
    split
    · exact ⟨_, rfl⟩
    · split
      · exact ⟨_, rfl⟩
      · rw [w64 (by omega) (by omega)]
        exact ih k (i + 1) (by omega) (by omega) (by omega) (by omega)

theorem word_same (d m : Int) (s : ByteArray) (hn : s.size ≤ 140737488351232) (hd0 : 1 ≤ d) (hd1 : d ≤ 3) : ∀ (k : Nat) (i : Int) (b : Bool), 0 ≤ i → i ≤ s.size →
    spec_l01Word.l0 k d s i = some b → impl_isWord.l0 k d s m (s.size : Int) i = some (b && decide ((s.size : Int) ≤ m)) := by
  intro k
  induction k with
  | zero => intro i b _ _ h; simp [spec_l01Word.l0] at h
  | succ k ih =>
    intro i b h0 h1 h
    have hb := bt_range s i
    simp only [spec_l01Word.l0] at h
    simp only [impl_isWord.l0]
    by_cases c : i < (s.size : Int)
    · rw [if_pos c, if_pos h0] at h
      rw [if_pos c, if_pos h0, if_pos c, w64 (x := bt s i) (by omega) (by omega), w64 (x := 48 + d) (by omega) (by omega)]
      by_cases c2 : bt s i < 48
      · rw [if_pos c2] at h ⊢
        obtain rfl := Option.some.inj h
        simp
      · rw [if_neg c2] at h ⊢
        rw [Int.emod_eq_of_lt (by omega) (by omega)] at h
        by_cases c3 : bt s i - 48 ≥ d
        · rw [if_pos c3] at h
          rw [if_pos (by omega)]
          obtain rfl := Option.some.inj h
          simp
        · rw [if_neg c3] at h
          rw [if_neg (by omega)]
          rw [w64 (x := i + 1) (by omega) (by omega)] at h ⊢
          exact ih (i + 1) b (by omega) (by omega) h
    · rw [if_neg c] at h ⊢
      obtain rfl := Option.some.inj h
      simp

/-- Both look at a short word alike. -/
theorem short_same (d : Int) (s : ByteArray) (hn : s.size ≤ 140737488351232) : ∃ (K : Nat) (b : Bool), ∀ k, K ≤ k → spec_l05Word.f k d s 8 = some b ∧ impl_isShort.f k d s = some b := by
  unfold spec_l05Word.f impl_isShort.f spec_l01In.f impl_areLetters.f impl_within.f
  by_cases c1 : d ≥ 1
  · by_cases c2 : d ≤ 3
    · obtain ⟨b, hb⟩ := word_ends d s hn s.size (s.size + 1) 0 (by omega) (by omega) (by omega) (by omega)
      refine ⟨s.size + 1, b && decide ((s.size : Int) ≤ 8), fun k hk => ?_⟩
      have hb' : spec_l01Word.l0 k d s 0 = some b := at_rounds (fun k => spec_l01Word.mono_l k _ _ _) hk hb
      have hi := word_same d 8 s hn (by omega) c2 k 0 b (by omega) (by omega) hb'
      simp only [c1, c2, if_true, decide_true, Option.bind_some, spec_l01Word.f, impl_isWord.f, hb', hi]
      by_cases c3 : (s.size : Int) ≤ 8 <;> simp [c3]
    · exact ⟨0, false, fun k _ => by simp [c1, c2]⟩
  · exact ⟨0, false, fun k _ => by simp [c1]⟩

theorem lyn_same : ∀ (k : Nat) (s : ByteArray) (i : Int), impl_isLyndon.l0 k s i = spec_l05Lyndon.l0 k s i := by
  intro k
  induction k with
  | zero => intro s i; rfl
  | succ k ih =>
    intro s i
    simp only [spec_l05Lyndon.l0, impl_isLyndon.l0, ih]
    have e : (s.toList != ([] : List UInt8)) = decide ((s.size : Int) > 0) := by
      rw [ByteArray.toList_eq, Bool.eq_iff_iff]
      simp only [bne_iff_ne, ne_eq, decide_eq_true_eq]
      have : s.size = s.data.toList.length := by simp
      rw [this]
      cases s.data.toList <;> simp
    rw [e]

theorem lyn_ends (s : ByteArray) (hn : s.size ≤ 140737488351232) (n : Nat) : ∀ (k : Nat) (i : Int), 0 ≤ i → (s.size : Int) - i ≤ n → n < k →
    ∃ b, spec_l05Lyndon.l0 k s i = some b := by
  induction n with
  | zero =>
    intro k i h0 hd hk
    obtain ⟨k, rfl⟩ : ∃ m, k = m + 1 := ⟨k - 1, by omega⟩
    simp only [spec_l05Lyndon.l0]; rw [if_neg (by omega)]; exact ⟨_, rfl⟩
  | succ n ih =>
    intro k i h0 hd hk
    obtain ⟨k, rfl⟩ : ∃ m, k = m + 1 := ⟨k - 1, by omega⟩
    simp only [spec_l05Lyndon.l0]
    by_cases c : i < (s.size : Int)
    · rw [if_pos c, if_pos h0, if_pos (by omega)]
      split
      · rw [w64 (by omega) (by omega)]
        exact ih k (i + 1) (by omega) (by omega) (by omega)
      · exact ⟨_, rfl⟩
    · rw [if_neg c]; exact ⟨_, rfl⟩

/-- Both tell a Lyndon word alike. -/
theorem lyndon_same (s : ByteArray) (hn : s.size ≤ 140737488351232) : ∃ (K : Nat) (b : Bool), ∀ k, K ≤ k → spec_l05Lyndon.f k s = some b ∧ impl_isLyndon.f k s = some b := by
  obtain ⟨b, hb⟩ := lyn_ends s hn s.size (s.size + 1) 1 (by omega) (by omega) (by omega)
  refine ⟨s.size + 1, b, fun k hk => ?_⟩
  have hb' : spec_l05Lyndon.l0 k s 1 = some b := at_rounds (fun k => spec_l05Lyndon.mono_l k _ _) hk hb
  exact ⟨hb', by unfold impl_isLyndon.f; rw [lyn_same]; exact hb'⟩

theorem ext_size (s : ByteArray) (i j : Nat) : (s.extract i j).size = min j s.size - i := by simp [ByteArray.size_extract]

theorem cut_same : ∀ (k : Nat) (s : ByteArray) (i : Int), impl_cut.l0 k s i = (spec_l05Cut.l0 k s i).map (fun j => (s.extract 0 j.toNat, s.extract j.toNat s.size)) := by
  intro k
  induction k with
  | zero => intro s i; rfl
  | succ k ih =>
    intro s i
    simp only [spec_l05Cut.l0, impl_cut.l0, ih]
    split
    · split
      · unfold impl_isLyndon.f spec_l05Lyndon.f
        rw [lyn_same]
        cases spec_l05Lyndon.l0 k (s.extract i.toNat s.size) 1 with
        | none => rfl
        | some b => cases b <;> simp
      · rfl
    · rfl

/-- The last letter alone is a Lyndon word. -/
theorem lyn_one (s : ByteArray) (h : s.size = 1) (k : Nat) (hk : 0 < k) : spec_l05Lyndon.f k s = some true := by
  obtain ⟨k, rfl⟩ : ∃ m, k = m + 1 := ⟨k - 1, by omega⟩
  unfold spec_l05Lyndon.f
  simp only [spec_l05Lyndon.l0]
  rw [if_neg (by omega)]
  simp [h]

theorem cut_ends (s : ByteArray) (hn : s.size ≤ 140737488351232) (n : Nat) : ∀ (i : Int), 1 ≤ i → i < s.size → (s.size : Int) - i ≤ n →
    ∃ k j, spec_l05Cut.l0 k s i = some j ∧ 1 ≤ j ∧ j < s.size := by
  induction n with
  | zero => intro i h0 h1 hd; omega
  | succ n ih =>
    intro i h0 h1 hd
    obtain ⟨K, b, hb⟩ := lyndon_same (s.extract i.toNat s.size) (by rw [ext_size]; omega)
    cases b with
    | true =>
      refine ⟨K + 1, i, ?_, h0, h1⟩
      simp only [spec_l05Cut.l0]
      rw [if_pos (by omega), if_pos (by omega), (hb K (Nat.le_refl _)).1]
      simp
    | false =>
      by_cases hl : i + 1 < s.size
      · obtain ⟨k, j, hk, hj⟩ := ih (i + 1) (by omega) hl (by omega)
        refine ⟨max K k + 1, j, ?_, hj⟩
        simp only [spec_l05Cut.l0]
        rw [if_pos (by omega), if_pos (by omega), (hb (max K k) (by omega)).1]
        simp only [Option.bind_some]
        rw [if_neg (by simp), w64 (by omega) (by omega)]
        exact at_rounds (fun k => spec_l05Cut.mono_l k _ _) (by omega) hk
      · exfalso
        have h2 := (hb (K + 1) (by omega)).1
        rw [lyn_one _ (by rw [ext_size]; omega) _ (by omega)] at h2
        simp at h2

/-- Both cut a text with two letters or more alike. -/
theorem cut_both (s : ByteArray) (hn : s.size ≤ 140737488351232) (h2 : 2 ≤ s.size) : ∃ (K : Nat) (j : Int), 1 ≤ j ∧ j < s.size ∧ ∀ k, K ≤ k →
    spec_l05Cut.f k s = some j ∧ impl_cut.f k s = some (s.extract 0 j.toNat, s.extract j.toNat s.size) := by
  obtain ⟨K, j, hk, h0, h1⟩ := cut_ends s hn s.size 1 (by omega) (by omega) (by omega)
  refine ⟨K, j, h0, h1, fun k hK => ?_⟩
  have h : spec_l05Cut.l0 k s 1 = some j := at_rounds (fun k => spec_l05Cut.mono_l k _ _) hK hk
  exact ⟨h, by unfold impl_cut.f; rw [cut_same, h]; rfl⟩

theorem bracket_ends (n : Nat) : ∀ s : ByteArray, s.size ≤ n → 1 ≤ s.size → s.size ≤ 1048576 →
    ∃ (K : Nat) (r : ByteArray), r.size + 3 ≤ 4 * s.size ∧ ∀ k, K ≤ k → spec_l05Bracket.f k s = some r ∧ impl_bracketText.f k s = some r := by
  induction n with
  | zero => intro s h0 h1 _; omega
  | succ n ih =>
    intro s h0 h1 hm
    by_cases c : (s.size : Int) = 1
    · refine ⟨1, s, by omega, fun k hk => ?_⟩
      obtain ⟨k, rfl⟩ : ∃ m, k = m + 1 := ⟨k - 1, by omega⟩
      simp only [spec_l05Bracket.f, impl_bracketText.f]
      rw [if_pos c, if_pos c]; exact ⟨rfl, rfl⟩
    · obtain ⟨Kc, j, hj0, hj1, hc⟩ := cut_both s (by omega) (by omega)
      have e1 : (s.extract 0 j.toNat).size = j.toNat := by rw [ext_size]; omega
      have e2 : (s.extract j.toNat s.size).size = s.size - j.toNat := by rw [ext_size]; omega
      obtain ⟨K1, r1, hr1, h1⟩ := ih (s.extract 0 j.toNat) (by omega) (by omega) (by omega)
      obtain ⟨K2, r2, hr2, h2⟩ := ih (s.extract j.toNat s.size) (by omega) (by omega) (by omega)
      refine ⟨max Kc (max K1 K2) + 1, ((((⟨#[91]⟩ : ByteArray) ++ r1) ++ (⟨#[44]⟩ : ByteArray)) ++ r2) ++ (⟨#[93]⟩ : ByteArray), ?_, fun k hk => ?_⟩
      · have : (⟨#[91]⟩ : ByteArray).size = 1 := rfl
        have : (⟨#[44]⟩ : ByteArray).size = 1 := rfl
        have : (⟨#[93]⟩ : ByteArray).size = 1 := rfl
        simp only [ByteArray.size_append]; omega
      · obtain ⟨k, rfl⟩ : ∃ m, k = m + 1 := ⟨k - 1, by omega⟩
        have g1 := h1 k (by omega)
        have g2 := h2 k (by omega)
        have gc := hc k (by omega)
        have z1 : (⟨#[91]⟩ : ByteArray).size = 1 := rfl
        have z2 : (⟨#[44]⟩ : ByteArray).size = 1 := rfl
        constructor
        · simp only [spec_l05Bracket.f]
          rw [if_neg c, gc.1]
          simp only [Option.bind_some]
          rw [if_pos (by omega), if_pos (by omega), g1.1]
          simp only [Option.bind_some]
          rw [if_pos (by omega), if_pos (by simp only [ByteArray.size_append]; omega), g2.1]
          simp only [Option.bind_some]
          rw [if_pos (by simp only [ByteArray.size_append]; omega), if_pos (by simp only [ByteArray.size_append]; omega)]
        · simp only [impl_bracketText.f]
          rw [if_neg c, gc.2]
          simp only [Option.bind_some]
          rw [g1.2]
          simp only [Option.bind_some]
          rw [if_pos (by omega), if_pos (by simp only [ByteArray.size_append]; omega), g2.2]
          simp only [Option.bind_some]
          rw [if_pos (by simp only [ByteArray.size_append]; omega), if_pos (by simp only [ByteArray.size_append]; omega)]

theorem bracket_both (s : ByteArray) (h1 : 1 ≤ s.size) (hm : s.size ≤ 1048576) : ∃ (K : Nat) (r : ByteArray), ∀ k, K ≤ k → spec_l05Bracket.f k s = some r ∧ impl_bracketText.f k s = some r := by
  obtain ⟨K, r, _, h⟩ := bracket_ends s.size s (Nat.le_refl _) h1 hm
  exact ⟨K, r, h⟩

theorem FnExactBracketText : laws_FnExactBracketText.Pure := by
  intro d s _ hn
  by_cases hbig : (s.size : Int) > 1048576
  · exact ⟨0, by unfold laws_FnExactBracketText.f; rw [if_pos hbig]⟩
  obtain ⟨K1, b1, h1⟩ := short_same d s hn
  obtain ⟨K2, b2, h2⟩ := lyndon_same s hn
  unfold laws_FnExactBracketText.f spec_BracketText.f impl_BracketText.f
  simp only [if_neg hbig]
  by_cases h0 : s.size = 0
  · refine ⟨max K1 K2, ?_⟩
    have g1 := h1 (max K1 K2) (Nat.le_max_left _ _)
    have g2 := h2 (max K1 K2) (Nat.le_max_right _ _)
    have hb : b2 = false := by
      have := g2.1
      unfold spec_l05Lyndon.f at this
      obtain ⟨m, hm⟩ : ∃ m, max K1 K2 = m + 1 ∨ max K1 K2 = 0 := ⟨max K1 K2 - 1, by omega⟩
      rcases hm with hm | hm
      · rw [hm] at this; simp only [spec_l05Lyndon.l0] at this; rw [if_neg (by omega)] at this
        simpa [h0] using this.symm
      · rw [hm] at this; simp [spec_l05Lyndon.l0] at this
    simp only [g1.1, g1.2, g2.1, g2.2, Option.bind_some, hb]
    cases b1 <;> simp
  · obtain ⟨K3, r, h3⟩ := bracket_both s (by omega) (by omega)
    refine ⟨max (max K1 K2) K3, ?_⟩
    have g1 := h1 (max (max K1 K2) K3) (by omega)
    have g2 := h2 (max (max K1 K2) K3) (by omega)
    have g3 := h3 (max (max K1 K2) K3) (by omega)
    simp only [g1.1, g1.2, g2.1, g2.2, g3.1, g3.2, Option.bind_some]
    cases b1 <;> cases b2 <;> simp

end Go.Proofs.Ytdpbfjmjbhmobaa.Pure
