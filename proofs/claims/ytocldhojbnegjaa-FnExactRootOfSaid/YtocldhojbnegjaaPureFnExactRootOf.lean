/- FnExactRootOf: for every number of letters and every text, the program's RootOf answers what the reference's answers. No condition. -/
import Derived.Test.YtocldhojbnegjaaQFnExactRootOfx2
namespace Go.Proofs.Ytocldhojbnegjaa.Pure
open Go.RowKit Go.Proofs.Ytocldhojbnegjaa.PFnExactRootOf Go.Proofs.YtocldhojbnegjaaW.PrintWords Go.Proofs.YtocldhojbnegjaaW.PrintLast
set_option linter.unusedSimpArgs false
set_option linter.unusedVariables false

theorem w64 {x : Int} (h0 : -9223372036854775808 ≤ x) (h1 : x ≤ 9223372036854775807) : wrap64 x = x := by unfold wrap64; omega

theorem word_ends (d : Int) (s : ByteArray) (hn : s.size ≤ 140737488351232) (n : Nat) : ∀ (k : Nat) (i : Int), 0 ≤ i → i ≤ s.size → (s.size : Int) - i = n → n < k →
    ∃ b, spec_l01Word.l0 k d s i = some b := by
  induction n with
  | zero =>
    intro k i h0 h1 hd hk
    obtain ⟨k, rfl⟩ : ∃ m, k = m + 1 := ⟨k - 1, by omega⟩
    exact ⟨true, by simp only [spec_l01Word.l0]; rw [if_neg (by omega)]⟩
  | succ n ih =>
    intro k i h0 h1 hd hk
    obtain ⟨k, rfl⟩ : ∃ m, k = m + 1 := ⟨k - 1, by omega⟩
    simp only [spec_l01Word.l0]
    rw [if_pos (by omega), if_pos h0]
    split
    · exact ⟨_, rfl⟩
    · split
      · exact ⟨_, rfl⟩
      · rw [w64 (by omega) (by omega)]
        exact ih k (i + 1) (by omega) (by omega) (by omega) (by omega)

theorem word_same (d m : Int) (s : ByteArray) (hn : s.size ≤ 140737488351232) (hd0 : 1 ≤ d) (hd1 : d ≤ 3) : ∀ (k : Nat) (i : Int) (b : Bool), 0 ≤ i → i ≤ s.size →
    spec_l01Word.l0 k d s i = some b → impl_isWord.l0 k d s m (s.size : Int) i = some (b && decide ((s.size : Int) ≤ m)) := by
  intro k
  induction k with
  | zero => intro i b _ _ h; simp [spec_l01Word.l0] at h
  | succ k ih =>
    intro i b h0 h1 h
    have hb := bt_range s i
    simp only [spec_l01Word.l0] at h
    simp only [impl_isWord.l0]
    by_cases c : i < (s.size : Int)
    · rw [if_pos c, if_pos h0] at h
      rw [if_pos c, if_pos h0, if_pos c, w64 (x := bt s i) (by omega) (by omega), w64 (x := 48 + d) (by omega) (by omega)]
      by_cases c2 : bt s i < 48
      · rw [if_pos c2] at h ⊢
        obtain rfl := Option.some.inj h
        simp
      · rw [if_neg c2] at h ⊢
        rw [Int.emod_eq_of_lt (by omega) (by omega)] at h
        by_cases c3 : bt s i - 48 ≥ d
        · rw [if_pos c3] at h
          rw [if_pos (by omega)]
          obtain rfl := Option.some.inj h
          simp
        · rw [if_neg c3] at h
          rw [if_neg (by omega)]
          rw [w64 (x := i + 1) (by omega) (by omega)] at h ⊢
          exact ih (i + 1) b (by omega) (by omega) h
    · rw [if_neg c] at h ⊢
      obtain rfl := Option.some.inj h
      simp

/-- Both look at a short word alike. -/
theorem short_same (d : Int) (s : ByteArray) (hn : s.size ≤ 140737488351232) : ∃ (K : Nat) (b : Bool), ∀ k, K ≤ k → spec_l05Word.f k d s 8 = some b ∧ impl_isShort.f k d s = some b := by
  unfold spec_l05Word.f impl_isShort.f spec_l01In.f impl_areLetters.f impl_within.f
  by_cases c1 : d ≥ 1
  · by_cases c2 : d ≤ 3
    · obtain ⟨b, hb⟩ := word_ends d s hn s.size (s.size + 1) 0 (by omega) (by omega) (by omega) (by omega)
      refine ⟨s.size + 1, b && decide ((s.size : Int) ≤ 8), fun k hk => ?_⟩
      have hb' : spec_l01Word.l0 k d s 0 = some b := at_rounds (fun k => spec_l01Word.mono_l k _ _ _) hk hb
      have hi := word_same d 8 s hn (by omega) c2 k 0 b (by omega) (by omega) hb'
      simp only [c1, c2, if_true, decide_true, Option.bind_some, spec_l01Word.f, impl_isWord.f, hb', hi]
      by_cases c3 : (s.size : Int) ≤ 8 <;> simp [c3]
    · exact ⟨0, false, fun k _ => by simp [c1, c2]⟩
  · exact ⟨0, false, fun k _ => by simp [c1]⟩

theorem nil_iff (s : ByteArray) : s.toList = ([] : List UInt8) ↔ s.size = 0 := by
  rw [ByteArray.toList_eq]
  have : s.size = s.data.toList.length := by simp
  rw [this]
  cases s.data.toList <;> simp
theorem nil_ne {s : ByteArray} (h : s.size ≠ 0) : s.toList ≠ ([] : List UInt8) := fun e => h ((nil_iff s).1 e)

theorem rep_turn (u : List UInt8) : ∀ m : Nat, u ++ Lib.repeatL u m = Lib.repeatL u m ++ u
  | 0 => by simp [Lib.repeatL]
  | m + 1 => by simp only [Lib.repeatL]; rw [List.append_assoc, ← rep_turn u m]
/-- What is the same when moved by its beginning u is u, many times. -/
theorem turn_rep (u : List UInt8) (m : Nat) : ∀ v : List UInt8, v.length = m * u.length → v ++ u = u ++ v → v = Lib.repeatL u m := by
  induction m with
  | zero => intro v hv _; simp at hv; simp [hv, Lib.repeatL]
  | succ m ih =>
    intro v hv h
    rw [Nat.add_mul, Nat.one_mul] at hv
    have h2 : v.take u.length = u := by
      have := congrArg (List.take u.length) h
      rw [List.take_append_of_le_length (by omega), List.take_left] at this
      exact this
    have h3 : v = u ++ v.drop u.length := by
      conv => lhs; rw [← List.take_append_drop u.length v, h2]
    have hl : (v.drop u.length).length = m * u.length := by rw [List.length_drop]; omega
    generalize v.drop u.length = d at h3 hl
    subst h3
    rw [List.append_assoc] at h
    have h4 := List.append_cancel_left h
    simp only [Lib.repeatL]
    rw [← ih d hl h4]
theorem turn_iff (w : List UInt8) (n : Nat) (h1 : 1 ≤ n) (hn : n ≤ w.length) (hd : w.length % n = 0) : w.drop n ++ w.take n = w ↔ Lib.repeatL (w.take n) (w.length / n) = w := by
  obtain ⟨c, hc⟩ : ∃ c, w.length / n = c + 1 := ⟨w.length / n - 1, by
    have : 1 ≤ w.length / n := (Nat.le_div_iff_mul_le (by omega)).2 (by omega)
    omega⟩
  have hlen : w.length = (c + 1) * n := by rw [← hc]; exact (Nat.div_mul_cancel (Nat.dvd_of_mod_eq_zero hd)).symm
  have hu : (w.take n).length = n := by rw [List.length_take]; omega
  have hv : (w.drop n).length = c * (w.take n).length := by rw [hu, List.length_drop, hlen, Nat.add_mul]; omega
  rw [hc]
  simp only [Lib.repeatL]
  have hw : w.take n ++ w.drop n = w := List.take_append_drop n w
  constructor
  · intro h
    have := turn_rep (w.take n) c (w.drop n) hv (h.trans hw.symm)
    rw [← this]; exact hw
  · intro h
    have h2 : Lib.repeatL (w.take n) c = w.drop n := List.append_cancel_left (h.trans hw.symm)
    rw [← h2, ← rep_turn, h]
theorem list_of (s : ByteArray) (i j : Nat) : (s.extract i j).toList = (s.data.toList.drop i).take (j - i) := by
  rw [ByteArray.toList_eq]; simp [ByteArray.data_extract, Array.toList_extract, List.extract_eq_take_drop]
theorem ba_toList (l : List UInt8) : (⟨l.toArray⟩ : ByteArray).toList = l := by rw [ByteArray.toList_eq]
theorem data_take (s : ByteArray) (i : Nat) : (s.extract 0 i).data.toList = s.data.toList.take i := by rw [← ByteArray.toList_eq, list_of]; simp
theorem mk_of {l : List UInt8} {t : ByteArray} (h : l = t.data.toList) : (⟨l.toArray⟩ : ByteArray) = t := by subst h; cases t; simp
/-- Both find the same root. -/
theorem root_both (s : ByteArray) (hs : s.size ≤ 1048576) (m : Nat) : ∀ i : Nat, 1 ≤ i → i + m = s.size →
    ∃ r, Ev (fun k => spec_RootOf.l0 k s (i : Int)) r ∧ Ev (fun k => impl_RootOf.l0 k s (i : Int)) r := by
  induction m with
  | zero =>
    intro i h1 hi
    refine ⟨(s.extract 0 i, wrap64 ((s.size : Int) / (i : Int)), 0), Ev.step (f := fun _ => some _) (fun k => ?_) (Ev.now _), Ev.step (f := fun _ => some _) (fun k => ?_) (Ev.now _)⟩
    all_goals
      have e1 : ((s.size : Int) % (i : Int)) = 0 := by rw [show (i : Int) = (s.size : Int) by omega]; exact Int.emod_self
      have e2 : i = s.size := by omega
    · simp only [spec_RootOf.l0]
      rw [if_neg (by omega), if_pos e1, if_pos (by omega), if_pos (by omega), if_pos (by simp only [ByteArray.size_extract]; omega), if_pos ?_, Int.toNat_natCast]
      rw [Int.toNat_natCast, e2, ByteArray.toList_eq, ByteArray.toList_eq]
      simp
    · simp only [impl_RootOf.l0]
      have e3 : wrap64 ((s.size : Int) / (i : Int)) = 1 := by
        rw [show (i : Int) = (s.size : Int) by omega, Int.ediv_self (by omega)]; unfold wrap64; omega
      have e4 : strings_Repeat.f (s.extract 0 i) 1 = some (s.extract 0 i) := by
        unfold strings_Repeat.f
        rw [if_pos ⟨by omega, by omega, by rw [ByteArray.size_extract]; simp; omega⟩]
        congr 1
        exact mk_of (by simp [Lib.repeatL])
      rw [if_neg (by omega), if_pos e1, if_pos (by omega), if_pos (by omega), Int.toNat_natCast, e3, e4]
      simp only [Option.bind_some]
      rw [if_pos (by rw [e2, ByteArray.extract_zero_size])]
  | succ m ih =>
    intro i h1 hi
    obtain ⟨r, hr1, hr2⟩ := ih (i + 1) (by omega) (by omega)
    have ew : wrap64 ((i : Int) + 1) = ((i + 1 : Nat) : Int) := by unfold wrap64; omega
    by_cases c1 : ((s.size : Int) % (i : Int)) = 0
    · have hd : s.size % i = 0 := by omega
      have hlen : s.data.toList.length = s.size := by simp
      obtain ⟨q, hqd⟩ : ∃ q : Nat, s.size / i = q := ⟨_, rfl⟩
      have hq : ((s.size : Int) / (i : Int)) = (q : Int) := by rw [← hqd]; rfl
      have hq2 : q ≤ s.size := by rw [← hqd]; exact Nat.div_le_self _ _
      have e3 : wrap64 ((s.size : Int) / (i : Int)) = (q : Int) := by rw [hq]; unfold wrap64; omega
      have hmul : i * q ≤ s.size := by rw [← hqd]; exact Nat.mul_div_le _ _
      have hex : (s.extract 0 i).size = i := by rw [ByteArray.size_extract]; omega
      have e4 : strings_Repeat.f (s.extract 0 i) (q : Int) = some ⟨(Lib.repeatL (s.extract 0 i).data.toList q).toArray⟩ := by
        unfold strings_Repeat.f
        rw [if_pos ⟨by omega, by omega, by rw [hex, Int.toNat_natCast]; omega⟩, Int.toNat_natCast]
      have hT : ((s.extract i s.size) ++ (s.extract 0 i)).toList = s.toList ↔ (⟨(Lib.repeatL (s.extract 0 i).data.toList q).toArray⟩ : ByteArray).toList = s.toList := by
        have e6 : (⟨(Lib.repeatL (s.extract 0 i).data.toList q).toArray⟩ : ByteArray).toList = Lib.repeatL (s.data.toList.take i) q := by rw [ba_toList, data_take]
        have e5 : ((s.extract i s.size) ++ (s.extract 0 i)).toList = s.data.toList.drop i ++ s.data.toList.take i := by
          rw [ByteArray.toList_eq, ByteArray.data_append, Array.toList_append, ← ByteArray.toList_eq, ← ByteArray.toList_eq, list_of, list_of]
          rw [List.take_of_length_le (by rw [List.length_drop]; omega)]; simp
        rw [e5, e6, ByteArray.toList_eq s]
        have := turn_iff s.data.toList i h1 (by omega) (by rw [hlen]; exact hd)
        rw [hlen, hqd] at this
        exact this
      by_cases c2 : ((s.extract i s.size) ++ (s.extract 0 i)).toList = s.toList
      · refine ⟨(s.extract 0 i, wrap64 ((s.size : Int) / (i : Int)), 0), Ev.step (f := fun _ => some _) (fun k => ?_) (Ev.now _), Ev.step (f := fun _ => some _) (fun k => ?_) (Ev.now _)⟩
        · simp only [spec_RootOf.l0]
          rw [if_neg (by omega), if_pos c1, if_pos (by omega), if_pos (by omega), if_pos (by simp only [ByteArray.size_extract]; omega), Int.toNat_natCast, if_pos c2]
        · simp only [impl_RootOf.l0]
          rw [if_neg (by omega), if_pos c1, if_pos (by omega), if_pos (by omega), Int.toNat_natCast, e3, e4]
          simp only [Option.bind_some]
          rw [if_pos (hT.1 c2)]
      · refine ⟨r, Ev.step (fun k => ?_) hr1, Ev.step (fun k => ?_) hr2⟩
        · simp only [spec_RootOf.l0]
          rw [if_neg (by omega), if_pos c1, if_pos (by omega), if_pos (by omega), if_pos (by simp only [ByteArray.size_extract]; omega), Int.toNat_natCast, if_neg c2, ew]
        · simp only [impl_RootOf.l0]
          rw [if_neg (by omega), if_pos c1, if_pos (by omega), if_pos (by omega), Int.toNat_natCast, e3, e4]
          simp only [Option.bind_some]
          rw [if_neg (fun h => c2 (hT.2 h)), ew]
    · refine ⟨r, Ev.step (fun k => ?_) hr1, Ev.step (fun k => ?_) hr2⟩
      · simp only [spec_RootOf.l0]
        rw [if_neg (by omega), if_neg c1, ew]
      · simp only [impl_RootOf.l0]
        rw [if_neg (by omega), if_neg c1, ew]

theorem FnExactRootOf : laws_FnExactRootOf.Pure := by
  intro d s _ hn
  by_cases hbig : (s.size : Int) > 1048576
  · exact ⟨0, by unfold laws_FnExactRootOf.f; rw [if_pos hbig]⟩
  obtain ⟨K1, b, h1⟩ := short_same d s hn
  have hS : Ev (fun k => spec_l05Word.f k d s 8) b := ⟨K1, fun k hk => (h1 k hk).1⟩
  have hI : Ev (fun k => impl_isShort.f k d s) b := ⟨K1, fun k hk => (h1 k hk).2⟩
  have key : ∃ r, Ev (fun k => spec_RootOf.f k d s) r ∧ Ev (fun k => impl_RootOf.f k d s) r := by
    cases b with
    | false =>
      refine ⟨((⟨#[]⟩ : ByteArray), 0, 2), Ev.bind hS ?_, Ev.bind hI ?_⟩
      · simp only [if_false, Bool.false_eq_true]; exact Ev.now _
      · simp only [if_false, Bool.false_eq_true]; exact Ev.now _
    | true =>
      by_cases c : s.size = 0
      · refine ⟨((⟨#[]⟩ : ByteArray), 0, 5), Ev.bind hS ?_, Ev.bind hI ?_⟩
        · have c' : (s.size : Int) = 0 := by omega
          simp only [if_true, c']; exact Ev.now _
        · simp only [if_true, (nil_iff s).2 c]; exact Ev.now _
      · obtain ⟨r, h2, h3⟩ := root_both s (by omega) (s.size - 1) 1 (by omega) (by omega)
        refine ⟨r, Ev.bind hS ?_, Ev.bind hI ?_⟩
        · have c' : ¬ (s.size : Int) = 0 := by omega
          simp only [if_true, c', if_false]; exact h2
        · simp only [if_true, nil_ne c, if_false]; exact h3
  obtain ⟨r, h2, h3⟩ := key
  refine Ev.rounds (Ev.congr (f := fun q => (spec_RootOf.f q d s).bind fun a => (impl_RootOf.f q d s).bind fun b => if b.1.toList = a.1.toList then (if b.2.1 = a.2.1 then (if b.2.2 = a.2.2 then some true else some false) else some false) else some false) (fun q => ?_) (Ev.bind h2 (Ev.bind h3 ?_)))
  · unfold laws_FnExactRootOf.f; rw [if_neg hbig]
  · simp only [if_true]; exact Ev.now _

end Go.Proofs.Ytocldhojbnegjaa.Pure
