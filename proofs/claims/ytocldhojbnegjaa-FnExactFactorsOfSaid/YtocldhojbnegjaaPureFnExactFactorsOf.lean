/- FnExactFactorsOf: for every number of letters and every text, the program's FactorsOf answers what the reference's answers, in new memory. No condition. -/
import Derived.Test.YtocldhojbnegjaaQFnExactFactorsOfx3
namespace Go.Proofs.Ytocldhojbnegjaa.Pure
open Go.RowKit Go.Proofs.Ytocldhojbnegjaa.PFnExactFactorsOf Go.Proofs.YtocldhojbnegjaaW.PrintWords Go.Proofs.YtocldhojbnegjaaW.PrintLast
set_option linter.unusedSimpArgs false
set_option linter.unusedVariables false

theorem w64 {x : Int} (h0 : -9223372036854775808 ≤ x) (h1 : x ≤ 9223372036854775807) : wrap64 x = x := by unfold wrap64; omega

theorem word_ends (d : Int) (s : ByteArray) (hn : s.size ≤ 140737488351232) (n : Nat) : ∀ (k : Nat) (i : Int), 0 ≤ i → i ≤ s.size → (s.size : Int) - i = n → n < k →
    ∃ b, spec_l01Word.l0 k d s i = some b := by
  induction n with
  | zero =>
    intro k i h0 h1 hd hk
    obtain ⟨k, rfl⟩ : ∃ m, k = m + 1 := ⟨k - 1, by omega⟩
    exact ⟨true, by simp only [spec_l01Word.l0]; rw [if_neg (by omega)]⟩
  | succ n ih =>
    intro k i h0 h1 hd hk
    obtain ⟨k, rfl⟩ : ∃ m, k = m + 1 := ⟨k - 1, by omega⟩
    simp only [spec_l01Word.l0]
    rw [if_pos (by omega), if_pos h0]
    split
    · exact ⟨_, rfl⟩
    · split
      · exact ⟨_, rfl⟩
      · rw [w64 (by omega) (by omega)]
        exact ih k (i + 1) (by omega) (by omega) (by omega) (by omega)

theorem word_same (d m : Int) (s : ByteArray) (hn : s.size ≤ 140737488351232) (hd0 : 1 ≤ d) (hd1 : d ≤ 3) : ∀ (k : Nat) (i : Int) (b : Bool), 0 ≤ i → i ≤ s.size →
    spec_l01Word.l0 k d s i = some b → impl_isWord.l0 k d s m (s.size : Int) i = some (b && decide ((s.size : Int) ≤ m)) := by
  intro k
  induction k with
  | zero => intro i b _ _ h; simp [spec_l01Word.l0] at h
  | succ k ih =>
    intro i b h0 h1 h
    have hb := bt_range s i
    simp only [spec_l01Word.l0] at h
    simp only [impl_isWord.l0]
    by_cases c : i < (s.size : Int)
    · rw [if_pos c, if_pos h0] at h
      rw [if_pos c, if_pos h0, if_pos c, w64 (x := bt s i) (by omega) (by omega), w64 (x := 48 + d) (by omega) (by omega)]
      by_cases c2 : bt s i < 48
      · rw [if_pos c2] at h ⊢
        obtain rfl := Option.some.inj h
        simp
      · rw [if_neg c2] at h ⊢
        rw [Int.emod_eq_of_lt (by omega) (by omega)] at h
        by_cases c3 : bt s i - 48 ≥ d
        · rw [if_pos c3] at h
          rw [if_pos (by omega)]
          obtain rfl := Option.some.inj h
          simp
        · rw [if_neg c3] at h
          rw [if_neg (by omega)]
          rw [w64 (x := i + 1) (by omega) (by omega)] at h ⊢
          exact ih (i + 1) b (by omega) (by omega) h
    · rw [if_neg c] at h ⊢
      obtain rfl := Option.some.inj h
      simp

/-- Both look at a short word alike. -/
theorem short_same (d : Int) (s : ByteArray) (hn : s.size ≤ 140737488351232) : ∃ (K : Nat) (b : Bool), ∀ k, K ≤ k → spec_l05Word.f k d s 8 = some b ∧ impl_isShort.f k d s = some b := by
  unfold spec_l05Word.f impl_isShort.f spec_l01In.f impl_areLetters.f impl_within.f
  by_cases c1 : d ≥ 1
  · by_cases c2 : d ≤ 3
    · obtain ⟨b, hb⟩ := word_ends d s hn s.size (s.size + 1) 0 (by omega) (by omega) (by omega) (by omega)
      refine ⟨s.size + 1, b && decide ((s.size : Int) ≤ 8), fun k hk => ?_⟩
      have hb' : spec_l01Word.l0 k d s 0 = some b := at_rounds (fun k => spec_l01Word.mono_l k _ _ _) hk hb
      have hi := word_same d 8 s hn (by omega) c2 k 0 b (by omega) (by omega) hb'
      simp only [c1, c2, if_true, decide_true, Option.bind_some, spec_l01Word.f, impl_isWord.f, hb', hi]
      by_cases c3 : (s.size : Int) ≤ 8 <;> simp [c3]
    · exact ⟨0, false, fun k _ => by simp [c1, c2]⟩
  · exact ⟨0, false, fun k _ => by simp [c1]⟩

theorem lyn_same : ∀ (k : Nat) (s : ByteArray) (i : Int), impl_isLyndon.l0 k s i = spec_l05Lyndon.l0 k s i := by
  intro k
  induction k with
  | zero => intro s i; rfl
  | succ k ih =>
    intro s i
    simp only [spec_l05Lyndon.l0, impl_isLyndon.l0, ih]
    have e : (s.toList != ([] : List UInt8)) = decide ((s.size : Int) > 0) := by
      rw [ByteArray.toList_eq, Bool.eq_iff_iff]
      simp only [bne_iff_ne, ne_eq, decide_eq_true_eq]
      have : s.size = s.data.toList.length := by simp
      rw [this]
      cases s.data.toList <;> simp
    rw [e]

theorem lyn_ends (s : ByteArray) (hn : s.size ≤ 140737488351232) (n : Nat) : ∀ (k : Nat) (i : Int), 0 ≤ i → (s.size : Int) - i ≤ n → n < k →
    ∃ b, spec_l05Lyndon.l0 k s i = some b := by
  induction n with
  | zero =>
    intro k i h0 hd hk
    obtain ⟨k, rfl⟩ : ∃ m, k = m + 1 := ⟨k - 1, by omega⟩
    simp only [spec_l05Lyndon.l0]; rw [if_neg (by omega)]; exact ⟨_, rfl⟩
  | succ n ih =>
    intro k i h0 hd hk
    obtain ⟨k, rfl⟩ : ∃ m, k = m + 1 := ⟨k - 1, by omega⟩
    simp only [spec_l05Lyndon.l0]
    by_cases c : i < (s.size : Int)
    · rw [if_pos c, if_pos h0, if_pos (by omega)]
      split
      · rw [w64 (by omega) (by omega)]
        exact ih k (i + 1) (by omega) (by omega) (by omega)
      · exact ⟨_, rfl⟩
    · rw [if_neg c]; exact ⟨_, rfl⟩

/-- Both tell a Lyndon word alike. -/
theorem lyndon_same (s : ByteArray) (hn : s.size ≤ 140737488351232) : ∃ (K : Nat) (b : Bool), ∀ k, K ≤ k → spec_l05Lyndon.f k s = some b ∧ impl_isLyndon.f k s = some b := by
  obtain ⟨b, hb⟩ := lyn_ends s hn s.size (s.size + 1) 1 (by omega) (by omega) (by omega)
  refine ⟨s.size + 1, b, fun k hk => ?_⟩
  have hb' : spec_l05Lyndon.l0 k s 1 = some b := at_rounds (fun k => spec_l05Lyndon.mono_l k _ _) hk hb
  exact ⟨hb', by unfold impl_isLyndon.f; rw [lyn_same]; exact hb'⟩

theorem nil_iff (s : ByteArray) : s.toList = ([] : List UInt8) ↔ s.size = 0 := by
  rw [ByteArray.toList_eq]
  have : s.size = s.data.toList.length := by simp
  rw [this]
  cases s.data.toList <;> simp
theorem nil_ne {s : ByteArray} (h : s.size ≠ 0) : s.toList ≠ ([] : List UInt8) := fun e => h ((nil_iff s).1 e)

theorem ext_size (s : ByteArray) (i j : Nat) : (s.extract i j).size = min j s.size - i := by simp [ByteArray.size_extract]
/-- The last letter alone is a Lyndon word. -/
theorem lyn_one (s : ByteArray) (h : s.size = 1) (k : Nat) (hk : 0 < k) : spec_l05Lyndon.f k s = some true := by
  obtain ⟨k, rfl⟩ : ∃ m, k = m + 1 := ⟨k - 1, by omega⟩
  unfold spec_l05Lyndon.f
  simp only [spec_l05Lyndon.l0]
  rw [if_neg (by omega)]
  simp [h]

/-! marks: texts -/
theorem w64m {x : Int} (h0 : -9223372036854775808 ≤ x) (h1 : x ≤ 9223372036854775807) : wrap64 x = x := by unfold wrap64; omega
theorem text_l0 (n : Nat) : ∀ (k : Nat) (s : ByteArray), k < n → k + s.size ≤ 1000000000000 → ∃ t, Ev (fun q => laws_markText.l0 q (k : Int) s) t := by
  induction n with
  | zero => intro k s h; omega
  | succ n ih =>
    intro k s hk hs
    by_cases c : k = 0
    · refine ⟨_, Ev.step (f := fun _ => some ((⟨#[109]⟩ : ByteArray) ++ s)) (fun q => ?_) (Ev.now _)⟩
      simp only [laws_markText.l0]
      rw [if_neg (by omega), if_pos (by omega)]
    · obtain ⟨t, ht⟩ := ih (k / 10) (strOfNums [wrap64 (48 + Int.tmod (k : Int) 10) % 256] ++ s) (by omega) (by rw [ByteArray.size_append, strOfNums_size]; simp only [List.length_cons, List.length_nil]; omega)
      refine ⟨t, Ev.step (fun q => ?_) ht⟩
      simp only [laws_markText.l0]
      have e : wrap64 (Int.tdiv (k : Int) 10) = ((k / 10 : Nat) : Int) := by
        rw [Int.tdiv_eq_ediv_of_nonneg (by omega)]
        rw [w64m (by omega) (by omega)]; omega
      rw [if_pos (by omega)]
      simp only [Option.bind_some]
      rw [if_pos (by rw [strOfNums_size]; simp only [List.length_cons, List.length_nil]; omega), e]
theorem text_ends (k : Nat) (hk : k ≤ 1000000000) : ∃ t, Ev (fun q => laws_markText.f q (k : Int)) t := by
  by_cases c : k = 0
  · exact ⟨_, Ev.congr (f := fun _ => some (⟨#[109, 48]⟩ : ByteArray)) (fun q => by unfold laws_markText.f; rw [if_pos (by omega)]) (Ev.now _)⟩
  · obtain ⟨t, ht⟩ := text_l0 (k + 1) k (⟨#[]⟩ : ByteArray) (by omega) (by show k + 0 ≤ _; omega)
    refine ⟨t, Ev.congr (fun q => ?_) ht⟩
    unfold laws_markText.f; rw [if_neg (by omega)]

theorem marks_ends (n m : Nat) : ∀ (j k0 : Nat) (l : List ByteArray), j + m = n → l.length = n → n ≤ 2000000 → k0 + m ≤ 100000000 →
    ∃ l' : List ByteArray, l'.length = n ∧ (∀ i, i < j → l'[i]? = l[i]?) ∧ Ev (fun q => laws_markStringS.l0 q l (k0 : Int) (j : Int)) ((k0 : Int) + m, l') ∧ Ev (fun q => laws_heldStringS.l0 q l' (k0 : Int) (j : Int)) ((k0 : Int) + m) := by
  induction m with
  | zero =>
    intro j k0 l hj hl hn hk
    refine ⟨l, hl, fun _ _ => rfl, Ev.step (f := fun _ => some ((k0 : Int), l)) (fun q => ?_) ?_, Ev.step (f := fun _ => some (k0 : Int)) (fun q => ?_) ?_⟩
    · simp only [laws_markStringS.l0]; rw [if_neg (by omega)]
    · rw [show ((k0 : Int) + (0 : Nat)) = k0 by omega]; exact Ev.now _
    · simp only [laws_heldStringS.l0]; rw [if_neg (by omega)]
    · rw [show ((k0 : Int) + (0 : Nat)) = k0 by omega]; exact Ev.now _
  | succ m ih =>
    intro j k0 l hj hl hn hk
    have hlt : j < l.length := by omega
    obtain ⟨t, ht⟩ := text_ends k0 (by omega)
    obtain ⟨l', h1, h2, h3, h4⟩ := ih (j + 1) (k0 + 1) (l.set j t) (by omega) (by rw [List.length_set]; exact hl) hn (by omega)
    have ek : wrap64 ((k0 : Int) + 1) = ((k0 + 1 : Nat) : Int) := by rw [w64m (by omega) (by omega)]; rfl
    have ej : wrap64 ((j : Int) + 1) = ((j + 1 : Nat) : Int) := by rw [w64m (by omega) (by omega)]; rfl
    have er : ((k0 + 1 : Nat) : Int) + (m : Nat) = (k0 : Int) + ((m + 1 : Nat) : Int) := by omega
    rw [er] at h3 h4
    have hj' : l'[j]? = some t := by rw [h2 j (by omega), List.getElem?_set_self hlt]
    refine ⟨l', h1, fun i hi => ?_, ?_, ?_⟩
    · rw [h2 i (by omega), List.getElem?_set_ne (by omega)]
    · refine Ev.step (f := fun q => (laws_markText.f q (k0 : Int)).bind fun t => laws_markStringS.l0 q (l.set j t) ((k0 + 1 : Nat) : Int) ((j + 1 : Nat) : Int)) (fun q => ?_) (Ev.bind ht h3)
      simp only [laws_markStringS.l0]
      rw [if_pos (by omega), ek, ej]
      simp only [show (0 : Int) ≤ (j : Int) from by omega, if_true, Int.toNat_natCast]
    · refine Ev.step (f := fun q => (laws_markText.f q (k0 : Int)).bind fun t2 => if (rdOf ByteArray.empty l' (j : Int)).toList = t2.toList then laws_heldStringS.l0 q l' ((k0 + 1 : Nat) : Int) ((j + 1 : Nat) : Int) else some (-1)) (fun q => ?_) (Ev.bind ht ?_)
      · simp only [laws_heldStringS.l0]
        rw [if_pos (by omega), if_pos (by omega), ek, ej]
      · have : rdOf ByteArray.empty l' (j : Int) = t := by simp [rdOf, hj']
        rw [this]; simp only [if_true]
        exact h4
/-- Marks are held. -/
theorem marks (l : List ByteArray) (hl : l.length ≤ 2000000) : ∃ l' : List ByteArray, Ev (fun q => laws_markStringS.f q l 1) (1 + (l.length : Int), l') ∧ Ev (fun q => laws_heldStringS.f q l' 1) (1 + (l.length : Int)) := by
  obtain ⟨l', _, _, h3, h4⟩ := marks_ends l.length l.length 0 1 l (by omega) rfl hl (by omega)
  exact ⟨l', h3, h4⟩
theorem eqS (l : List ByteArray) (hl : l.length ≤ 2000000) (m : Nat) : ∀ j : Nat, j + m = l.length → Ev (fun q => laws_eqStringS.l0 q l l (j : Int)) true := by
  induction m with
  | zero =>
    intro j hj
    refine Ev.step (f := fun _ => some true) (fun q => ?_) (Ev.now _)
    simp only [laws_eqStringS.l0]; rw [if_neg (by omega)]
  | succ m ih =>
    intro j hj
    refine Ev.step (fun q => ?_) (ih (j + 1) (by omega))
    simp only [laws_eqStringS.l0]
    rw [if_pos (by omega), if_pos (by omega), if_pos (by omega), w64m (x := (j : Int) + 1) (by omega) (by omega)]
    simp only [if_true]; rfl
theorem eq_same (l : List ByteArray) (hl : l.length ≤ 2000000) : Ev (fun q => laws_eqStringS.f q l l) true := by
  refine Ev.congr (fun q => ?_) (eqS l hl l.length 0 (by omega))
  unfold laws_eqStringS.f; rw [if_pos rfl]; rfl

theorem fac_same : ∀ (k : Nat), (∀ s l, impl_factors.l0 k s l = spec_l05Factors.l0 k s l) ∧ (∀ s l i, impl_factors.l1 k s l i = spec_l05Factors.l1 k s l i) := by
  intro k
  induction k with
  | zero => exact ⟨fun _ _ => rfl, fun _ _ _ => rfl⟩
  | succ k ih =>
    obtain ⟨ih0, ih1⟩ := ih
    have hl : ∀ s, impl_isLyndon.f k s = spec_l05Lyndon.f k s := fun s => by unfold impl_isLyndon.f spec_l05Lyndon.f; exact lyn_same k s 1
    refine ⟨fun s l => ?_, fun s l i => ?_⟩
    · simp only [impl_factors.l0, spec_l05Factors.l0, ih1]
      by_cases c : s.size = 0
      · rw [if_pos ((nil_iff s).2 c), if_neg (by omega)]
      · rw [if_neg (nil_ne c), if_pos (by omega)]
    · simp only [impl_factors.l1, spec_l05Factors.l1, ih0, ih1, hl]
theorem fac_ends (n : Nat) : ∀ (s : ByteArray) (l : List ByteArray), s.size ≤ n → s.size ≤ 1048576 → l.length + s.size ≤ 2000000 → ∃ r : List ByteArray, r.length ≤ l.length + s.size ∧ Ev (fun k => spec_l05Factors.l0 k s l) r := by
  induction n with
  | zero =>
    intro s l hn _ _
    exact ⟨l, by omega, Ev.step (f := fun _ => some l) (fun k => by simp only [spec_l05Factors.l0]; rw [if_neg (by omega)]) (Ev.now _)⟩
  | succ n ih =>
    intro s l hn hs hl
    by_cases c : s.size = 0
    · exact ⟨l, by omega, Ev.step (f := fun _ => some l) (fun k => by simp only [spec_l05Factors.l0]; rw [if_neg (by omega)]) (Ev.now _)⟩
    · have key : ∀ i : Nat, 1 ≤ i → i ≤ s.size → ∃ r : List ByteArray, r.length ≤ l.length + s.size ∧ Ev (fun k => spec_l05Factors.l1 k s l (i : Int)) r := by
        intro i
        induction i with
        | zero => intro h; omega
        | succ i ihi =>
          intro _ hi
          have hsz : (s.extract 0 (i + 1)).size = i + 1 := by rw [ByteArray.size_extract]; omega
          obtain ⟨K, b, hb⟩ := lyndon_same (s.extract 0 (i + 1)) (by omega)
          have hE : Ev (fun k => spec_l05Lyndon.f k (s.extract 0 (i + 1))) b := ⟨K, fun k hk => (hb k hk).1⟩
          cases b with
          | true =>
            obtain ⟨r, hr1, hr2⟩ := ih (s.extract (i + 1) s.size) (l ++ [s.extract 0 (i + 1)]) (by rw [ByteArray.size_extract]; omega) (by rw [ByteArray.size_extract]; omega) (by rw [ByteArray.size_extract]; simp; omega)
            rw [ByteArray.size_extract] at hr1
            simp only [List.length_append, List.length_cons, List.length_nil] at hr1
            refine ⟨r, by omega, Ev.step (f := fun k => (spec_l05Lyndon.f k (s.extract 0 (i + 1))).bind fun t => if t = true then (if l.length < 8796093022208 then spec_l05Factors.l0 k (s.extract (i + 1) s.size) (l ++ [s.extract 0 (i + 1)]) else none) else spec_l05Factors.l1 k s l (wrap64 (((i + 1 : Nat) : Int) - 1))) (fun k => ?_) (Ev.bind hE ?_)⟩
            · simp only [spec_l05Factors.l1]
              rw [if_pos (by omega), if_pos (by omega), Int.toNat_natCast]
            · simp only [if_true]
              refine Ev.congr (fun k => ?_) hr2
              rw [if_pos (by omega)]
          | false =>
            have hi1 : 1 ≤ i := by
              rcases Nat.eq_zero_or_pos i with h0 | h0
              · exfalso
                subst h0
                have h3 := lyn_one (s.extract 0 (0 + 1)) hsz (K + 1) (by omega)
                rw [(hb (K + 1) (by omega)).1] at h3
                simp at h3
              · exact h0
            obtain ⟨r, hr1, hr2⟩ := ihi hi1 (by omega)
            refine ⟨r, hr1, Ev.step (f := fun k => (spec_l05Lyndon.f k (s.extract 0 (i + 1))).bind fun t => if t = true then (if l.length < 8796093022208 then spec_l05Factors.l0 k (s.extract (i + 1) s.size) (l ++ [s.extract 0 (i + 1)]) else none) else spec_l05Factors.l1 k s l (i : Int)) (fun k => ?_) (Ev.bind hE ?_)⟩
            · simp only [spec_l05Factors.l1]
              rw [if_pos (by omega), if_pos (by omega), Int.toNat_natCast, w64 (x := ((i + 1 : Nat) : Int) - 1) (by omega) (by omega), show (((i + 1 : Nat) : Int) - 1) = (i : Int) by omega]
            · simp only [if_false, Bool.false_eq_true]
              exact hr2
      obtain ⟨r, hr1, hr2⟩ := key s.size (by omega) (Nat.le_refl _)
      refine ⟨r, hr1, Ev.step (fun k => ?_) hr2⟩
      simp only [spec_l05Factors.l0]; rw [if_pos (by omega)]
/-- Both find the same factors. -/
theorem fac_both (s : ByteArray) (hs : s.size ≤ 1048576) : ∃ r : List ByteArray, r.length ≤ s.size ∧ Ev (fun k => spec_l05Factors.f k s) r ∧ Ev (fun k => impl_factors.f k s) r := by
  obtain ⟨r, h1, h2⟩ := fac_ends s.size s [] (Nat.le_refl _) hs (by simp; omega)
  simp only [List.length_nil, Nat.zero_add] at h1
  refine ⟨r, h1, h2, Ev.congr (fun k => ?_) h2⟩
  unfold impl_factors.f
  exact (fac_same k).1 s []

/-- The law, where both come to the same list and code. -/
theorem law_of (d : Int) (s : ByteArray) (hbig : ¬ (s.size : Int) > 1048576) (l : List ByteArray) (c : Int) (hl : l.length ≤ 2000000) (h1 : Ev (fun q => spec_FactorsOf.f q d s) (l, c)) (h2 : Ev (fun q => impl_FactorsOf.f q d s) (l, c)) : ∃ k, laws_FnExactFactorsOf.f k d s = some true := by
  obtain ⟨l', h3, h4⟩ := marks l hl
  have h5 := eq_same l hl
  refine Ev.rounds (Ev.congr (f := fun q => (spec_FactorsOf.f q d s).bind fun a => (impl_FactorsOf.f q d s).bind fun b => (laws_eqStringS.f q b.1 a.1).bind fun t => if t = true then laws_FnExactFactorsOf.j0 q d s a.1 a.2 b.1 (b.2 != a.2) else laws_FnExactFactorsOf.j0 q d s a.1 a.2 b.1 true) (fun q => ?_) (Ev.bind h1 (Ev.bind h2 (Ev.bind h5 ?_))))
  · unfold laws_FnExactFactorsOf.f; rw [if_neg hbig]
  · simp only [if_true, bne_self_eq_false]
    refine Ev.step (f := fun q => (laws_markStringS.f q l 1).bind fun a => (laws_heldStringS.f q a.2 1).bind fun t => if t < 0 then some false else if t = a.1 then (impl_FactorsOf.f q d s).bind fun b => (laws_eqStringS.f q b.1 l).bind fun t => if t = true then laws_FnExactFactorsOf.j1 q a.2 a.1 (b.2 != c) else laws_FnExactFactorsOf.j1 q a.2 a.1 true else some false) (fun q => ?_) (Ev.bind h3 (Ev.bind h4 ?_))
    · simp only [laws_FnExactFactorsOf.j0, if_false, Bool.false_eq_true]
    · have hn : ¬ (1 + (l.length : Int)) < 0 := by omega
      simp only [hn, if_false, if_true]
      refine Ev.bind h2 (Ev.bind h5 ?_)
      simp only [if_true, bne_self_eq_false]
      refine Ev.step (f := fun q => (laws_heldStringS.f q l' 1).bind fun t => if t < 0 then some false else if t = 1 + (l.length : Int) then some true else some false) (fun q => ?_) (Ev.bind h4 ?_)
      · simp only [laws_FnExactFactorsOf.j1, if_false, Bool.false_eq_true]
      · simp only [hn, if_false, if_true]
        exact Ev.now _

theorem FnExactFactorsOf : laws_FnExactFactorsOf.Pure := by
  intro d s _ hn
  by_cases hbig : (s.size : Int) > 1048576
  · exact ⟨0, by unfold laws_FnExactFactorsOf.f; rw [if_pos hbig]⟩
  obtain ⟨K1, b, h1⟩ := short_same d s hn
  have hS : Ev (fun k => spec_l05Word.f k d s 8) b := ⟨K1, fun k hk => (h1 k hk).1⟩
  have hI : Ev (fun k => impl_isShort.f k d s) b := ⟨K1, fun k hk => (h1 k hk).2⟩
  cases b with
  | false =>
    refine law_of d s hbig [] 2 (by simp) ?_ ?_
    · refine Ev.bind hS ?_; simp only [if_false, Bool.false_eq_true]; exact Ev.now _
    · refine Ev.bind hI ?_; simp only [if_false, Bool.false_eq_true]; exact Ev.now _
  | true =>
    obtain ⟨r, hr, h2, h3⟩ := fac_both s (by omega)
    refine law_of d s hbig r 0 (by omega) ?_ ?_
    · refine Ev.bind hS ?_; simp only [if_true]; exact Ev.bind h2 (Ev.now _)
    · refine Ev.bind hI ?_; simp only [if_true]; exact Ev.bind h3 (Ev.now _)

end Go.Proofs.Ytocldhojbnegjaa.Pure
