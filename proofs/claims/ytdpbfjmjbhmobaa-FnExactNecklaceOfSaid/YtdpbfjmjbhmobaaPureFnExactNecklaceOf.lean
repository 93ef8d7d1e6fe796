/- FnExactNecklaceOf: for every number of letters and every text, the program's NecklaceOf answers what the reference's answers. No condition. -/
import Derived.Test.YtdpbfjmjbhmobaaQFnExactNecklaceOfx1
namespace Go.Proofs.Ytdpbfjmjbhmobaa.Pure
open Go.RowKit Go.Proofs.Ytdpbfjmjbhmobaa.PFnExactNecklaceOf Go.Proofs.YtdpbfjmjbhmobaaW.PrintWords Go.Proofs.YtdpbfjmjbhmobaaW.PrintLast

theorem w64 {x : Int} (h0 : -9223372036854775808 ≤ x) (h1 : x ≤ 9223372036854775807) : wrap64 x = x := by unfold wrap64; omega

theorem word_ends (d : Int) (s : ByteArray) (hn : s.size ≤ 140737488351232) (n : Nat) : ∀ (k : Nat) (i : Int), 0 ≤ i → i ≤ s.size → (s.size : Int) - i = n → n < k →
    ∃ b, spec_l01Word.l0 k d s i = some b := by
  induction n with
  | zero =>
    intro k i h0 h1 hd hk
    obtain ⟨k, rfl⟩ : ∃ m, k = m + 1 := ⟨k - 1, by omega⟩
    exact ⟨true, by simp only [spec_l01Word.l0]; rw [if_neg (by omega)]⟩
  | succ n ih =>
    intro k i h0 h1 hd hk
    obtain ⟨k, rfl⟩ : ∃ m, k = m + 1 := ⟨k - 1, by omega⟩
    simp only [spec_l01Word.l0]
    rw [if_pos (by omega), if_pos h0]
    split
    · exact ⟨_, rfl⟩
    · split
      · exact ⟨_, rfl⟩
      · rw [w64 (by omega) (by omega)]
        exact ih k (i + 1) (by omega) (by omega) (by omega) (by omega)

theorem word_same (d m : Int) (s : ByteArray) (hn : s.size ≤ 140737488351232) (hd0 : 1 ≤ d) (hd1 : d ≤ 3) : ∀ (k : Nat) (i : Int) (b : Bool), 0 ≤ i → i ≤ s.size →
    spec_l01Word.l0 k d s i = some b → impl_isWord.l0 k d s m (s.size : Int) i = some (b && decide ((s.size : Int) ≤ m)) := by
  intro k
  induction k with
  | zero => intro i b _ _ h; simp [spec_l01Word.l0] at h
  | succ k ih =>
    intro i b h0 h1 h
    have hb := bt_range s i
    simp only [spec_l01Word.l0] at h
    simp only [impl_isWord.l0]
    by_cases c : i < (s.size : Int)
    · rw [if_pos c, if_pos h0] at h
      rw [if_pos c, if_pos h0, if_pos c, w64 (x := bt s i) (by omega) (by omega), w64 (x := 48 + d) (by omega) (by omega)]
      by_cases c2 : bt s i < 48
      · rw [if_pos c2] at h ⊢
        obtain rfl := Option.some.inj h
        simp
      · rw [if_neg c2] at h ⊢
        rw [Int.emod_eq_of_lt (by omega) (by omega)] at h
        by_cases c3 : bt s i - 48 ≥ d
        · rw [if_pos c3] at h
          rw [if_pos (by omega)]
          obtain rfl := Option.some.inj h
          simp
        · rw [if_neg c3] at h
          rw [if_neg (by omega)]
          rw [w64 (x := i + 1) (by omega) (by omega)] at h ⊢
          exact ih (i + 1) b (by omega) (by omega) h
    · rw [if_neg c] at h ⊢
      obtain rfl := Option.some.inj h
      simp

/-- Both look at a short word alike. -/
theorem short_same (d : Int) (s : ByteArray) (hn : s.size ≤ 140737488351232) : ∃ (K : Nat) (b : Bool), ∀ k, K ≤ k → spec_l05Word.f k d s 8 = some b ∧ impl_isShort.f k d s = some b := by
  unfold spec_l05Word.f impl_isShort.f spec_l01In.f impl_areLetters.f impl_within.f
  by_cases c1 : d ≥ 1
  · by_cases c2 : d ≤ 3
    · obtain ⟨b, hb⟩ := word_ends d s hn s.size (s.size + 1) 0 (by omega) (by omega) (by omega) (by omega)
      refine ⟨s.size + 1, b && decide ((s.size : Int) ≤ 8), fun k hk => ?_⟩
      have hb' : spec_l01Word.l0 k d s 0 = some b := at_rounds (fun k => spec_l01Word.mono_l k _ _ _) hk hb
      have hi := word_same d 8 s hn (by omega) c2 k 0 b (by omega) (by omega) hb'
      simp only [c1, c2, if_true, decide_true, Option.bind_some, spec_l01Word.f, impl_isWord.f, hb', hi]
      by_cases c3 : (s.size : Int) ≤ 8 <;> simp [c3]
    · exact ⟨0, false, fun k _ => by simp [c1, c2]⟩
  · exact ⟨0, false, fun k _ => by simp [c1]⟩

theorem neck_same : ∀ (k : Nat) (s b : ByteArray) (i : Int), impl_NecklaceOf.l0 k s b (s.size : Int) i = spec_NecklaceOf.l0 k s b i := by
  intro k
  induction k with
  | zero => intro s b i; rfl
  | succ k ih => intro s b i; simp only [spec_NecklaceOf.l0, impl_NecklaceOf.l0, ih]

theorem neck_ends (s : ByteArray) (hn : s.size ≤ 140737488351232) (n : Nat) : ∀ (k : Nat) (b : ByteArray) (i : Int), 0 ≤ i → (s.size : Int) - i ≤ n → n < k →
    ∃ r, spec_NecklaceOf.l0 k s b i = some r := by
  induction n with
  | zero =>
    intro k b i h0 hd hk
    obtain ⟨k, rfl⟩ : ∃ m, k = m + 1 := ⟨k - 1, by omega⟩
    simp only [spec_NecklaceOf.l0]; rw [if_neg (by omega)]; exact ⟨_, rfl⟩
  | succ n ih =>
    intro k b i h0 hd hk
    obtain ⟨k, rfl⟩ : ∃ m, k = m + 1 := ⟨k - 1, by omega⟩
    simp only [spec_NecklaceOf.l0]
    by_cases c : i < (s.size : Int)
    · rw [if_pos c, if_pos h0, if_pos (by omega), if_pos (by simp only [ByteArray.size_extract]; omega), w64 (x := i + 1) (by omega) (by omega)]
      split
      · exact ih k _ (i + 1) (by omega) (by omega) (by omega)
      · exact ih k _ (i + 1) (by omega) (by omega) (by omega)
    · rw [if_neg c]; exact ⟨_, rfl⟩

theorem turn_none (s : ByteArray) : s.extract 0 s.size ++ s.extract 0 0 = s := by
  apply ByteArray.ext
  simp

/-- Both find the same necklace. -/
theorem neck_both (s : ByteArray) (hn : s.size ≤ 140737488351232) : ∃ (K : Nat) (r : ByteArray × Int), ∀ k, K ≤ k →
    spec_NecklaceOf.l0 k s s 1 = some r ∧ impl_NecklaceOf.l0 k s s (s.size : Int) 0 = some r := by
  obtain ⟨r, hr⟩ := neck_ends s hn s.size (s.size + 1) s 1 (by omega) (by omega) (by omega)
  refine ⟨s.size + 2, r, fun k hk => ?_⟩
  have hs : spec_NecklaceOf.l0 k s s 1 = some r := at_rounds (fun k => spec_NecklaceOf.mono_l k _ _ _) (by omega) hr
  refine ⟨hs, ?_⟩
  rw [neck_same]
  obtain ⟨k, rfl⟩ : ∃ m, k = m + 1 := ⟨k - 1, by omega⟩
  have hs' : spec_NecklaceOf.l0 k s s 1 = some r := at_rounds (fun k => spec_NecklaceOf.mono_l k _ _ _) (by omega) hr
  by_cases c : 0 < s.size
  · simp only [spec_NecklaceOf.l0]
    rw [if_pos (by omega), if_pos (by omega), if_pos (by omega), if_pos (by simp only [ByteArray.size_extract]; omega)]
    rw [show (0 : Int).toNat = 0 from rfl, turn_none, if_neg (by rw [Go.Proofs.YtdpbfjmjbhmobaaZ.less_irr]; simp), show wrap64 (0 + 1) = 1 from by unfold wrap64; omega]
    exact hs'
  · obtain ⟨k, rfl⟩ : ∃ m, k = m + 1 := ⟨k - 1, by omega⟩
    rw [← hs]
    simp only [spec_NecklaceOf.l0]
    rw [if_neg (by omega), if_neg (by omega)]

theorem FnExactNecklaceOf : laws_FnExactNecklaceOf.Pure := by
  intro d s _ hn
  by_cases hbig : (s.size : Int) > 1048576
  · exact ⟨0, by unfold laws_FnExactNecklaceOf.f; rw [if_pos hbig]⟩
  obtain ⟨K1, b1, h1⟩ := short_same d s hn
  obtain ⟨K2, r, h2⟩ := neck_both s hn
  refine ⟨max K1 K2, ?_⟩
  have g1 := h1 (max K1 K2) (Nat.le_max_left _ _)
  have g2 := h2 (max K1 K2) (Nat.le_max_right _ _)
  unfold laws_FnExactNecklaceOf.f spec_NecklaceOf.f impl_NecklaceOf.f
  simp only [if_neg hbig, g1.1, g1.2, g2.1, g2.2, Option.bind_some]
  cases b1 <;> simp

end Go.Proofs.Ytdpbfjmjbhmobaa.Pure
