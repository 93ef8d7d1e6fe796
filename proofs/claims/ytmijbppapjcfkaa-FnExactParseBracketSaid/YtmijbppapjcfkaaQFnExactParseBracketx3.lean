import Derived.Test.YtmijbppapjcfkaaQFnExactParseBracketx0
import Derived.Test.YtmijbppapjcfkaaQFnExactParseBracketx2
namespace Go.Proofs.Ytmijbppapjcfkaa.PFnExactParseBracket
open Go.RowKit Go.Proofs.YtmijbppapjcfkaaW.PrintWords Go.Proofs.YtmijbppapjcfkaaW.PrintLast Go.Proofs.YtmijbppapjcfkaaW.PrintMore
attribute [local go_sem] max2_int min2_int max_two min_two max_three min_three max_four min_four Go.Proofs.YtmijbppapjcfkaaZ.min2_string   -- for this text's walks alone
set_option linter.unusedVariables false
set_option linter.unusedSimpArgs false

/-! ### impl_ParseBracket: function 9 -/
def impl_ParseBracket.keepB (l : List UInt8) : List UInt8 := l.filter (fun c => decide (Lib.indexByte [91, 44, 93] c < 0))
def impl_ParseBracket.word (s : ByteArray) : ByteArray := ⟨(impl_ParseBracket.keepB s.data.toList).toArray⟩
theorem impl_ParseBracket.keep_succ (l : List UInt8) {i : Nat} (h : i < l.length) : impl_ParseBracket.keepB (l.take (i + 1)) = impl_ParseBracket.keepB (l.take i) ++ (if Lib.indexByte [91, 44, 93] l[i] < 0 then [l[i]] else []) := by
  unfold impl_ParseBracket.keepB
  rw [List.take_succ_eq_append_getElem h, List.filter_append]
  by_cases c : Lib.indexByte [91, 44, 93] l[i] < 0
  · rw [if_pos c]; simp [c]
  · rw [if_neg c]; simp [c]
theorem impl_ParseBracket.keep_len (l : List UInt8) : (impl_ParseBracket.keepB l).length ≤ l.length := List.length_filter_le _ _
def impl_ParseBracket.f (k : Nat) (a0 : Int) (a1 : ByteArray) : Option (ByteArray × Int) :=
  if a1.size ≤ 1048576 then (impl_areLetters.f a0).bind fun t1 => if t1 = true then (impl_isShort.f k a0 (impl_ParseBracket.word a1)).bind fun t2 => if t2 = true then (impl_isLyndon.f k (impl_ParseBracket.word a1)).bind fun t3 => if t3 = true then (impl_bracketText.f k (impl_ParseBracket.word a1)).bind fun t4 => if t4 = a1 then some (impl_ParseBracket.word a1, 0) else some (⟨#[]⟩, 6) else some (⟨#[]⟩, 6) else some (⟨#[]⟩, 6) else some (⟨#[]⟩, 2) else none
theorem impl_ParseBracket.mono : ∀ a0 a1 k, LeO (impl_ParseBracket.f k a0 a1) (impl_ParseBracket.f (k + 1) a0 a1) := by
  intro a0 a1 k
  unfold impl_ParseBracket.f
  repeat' first
    | (with_reducible exact impl_isShort.mono _ _ _)
    | (with_reducible exact impl_isLyndon.mono _ _)
    | (with_reducible exact impl_bracketText.mono _ _)
    | (with_reducible exact LeO.refl _)
    | (with_reducible refine LeO.ite ?_ ?_)
    | (with_reducible refine LeO.bind ?_ (fun _ => ?_))
    | exact LeO.refl _
    | exact LeO.none _
set_option maxHeartbeats 8000000 in
set_option maxRecDepth 100000 in
theorem impl_ParseBracket.calls (k : Nat) (a0 : Int) (a1 : ByteArray) (r1 : ByteArray) (r2 : Int) (w : World) (h : impl_ParseBracket.f k a0 a1 = some (r1, r2)) :
    Calls Try.prog 9 #[.int .i64 a0, .string a1] w fun e w' => e = .returned (.tuple #[.string r1, .int .i64 r2]) ∧ Below w.heap.size w w' := by
  unfold impl_ParseBracket.f at h
  split at h
  rotate_left
  · cases h
  rename_i hsm
  have hu := Try.underlying60
  obtain ⟨t1, h1, h⟩ := Option.bind_eq_some_iff.mp h
  have H1 := Aside0.mk h1
  by_cases c1 : t1 = true
  rotate_left
  · rw [if_neg c1] at h
    obtain ⟨rfl, rfl⟩ := Prod.mk.inj (Option.some.inj h)
    obtain rfl : t1 = false := by simpa using c1
    clear h h1 c1 hsm
    go_enter Try.func9, Try.ntmps9
    go_wp2_with (go_at_call 53; refine (impl_areLetters.calls _ _ _ H1.out).mono ?_; rintro e w1 ⟨rfl, hd⟩; have HB1 := Aside0.mk hd.below; clear hd)
    go_ret2
    exact ⟨rfl, HB1.out⟩
  · obtain rfl : t1 = true := c1
    rw [if_pos rfl] at h
    have HSM := Aside0.mk hsm
    have HH := Aside0.mk h
    have hlen : a1.data.toList.length = a1.size := by rw [Array.length_toList]; rfl
    have HLE := Aside0.mk hlen
    obtain ⟨wd, hwd⟩ : ∃ x, x = impl_ParseBracket.word a1 := ⟨_, rfl⟩
    rw [← hwd] at HH
    have HSTR := Aside0.mk (show ∀ (b : Nat) W, Lib.IsBuilder 60 5 b b (Lib.byteCells (impl_ParseBracket.keepB a1.data.toList)) W → b ≤ W.heap.size → Calls Try.prog 56 #[.pointer (some ⟨b, 0, none⟩)] W fun e w' => e = .returned (.string wd) ∧ Below b W w' from fun b W hW hb => by rw [hwd]; exact Try.Builder_String_any b b _ W hW hb)
    clear h h1 hsm hlen hwd
    go_enter Try.func9, Try.ntmps9
    go_wp2_with (go_at_call 53; refine (impl_areLetters.calls _ _ _ H1.out).mono ?_; rintro e w1 ⟨rfl, hd⟩; have HB1 := Aside0.mk hd.below; clear hd)
    go_loopg [14] a1.size (fun gg v14 wr => ∃ i : Nat, i ≤ a1.size ∧ a1.size - i ≤ gg ∧ v14 = .int .i64 i ∧ Aside0 (Lib.IsBuilder 60 5 w1.heap.size w1.heap.size (Lib.byteCells (impl_ParseBracket.keepB (a1.data.toList.take i))) wr) ∧ Aside0 (Below w1.heap.size w1 wr))
    case atStart => exact ⟨0, Nat.zero_le _, by omega, rfl, ⟨by rw [List.take_zero]; exact Lib.fresh_isBuilder _ _ w1⟩, ⟨below_alloc (Below.refl _ _) _⟩⟩
    case round =>
      obtain ⟨i, hi, hg, rfl, HI, HB⟩ := hrel
      by_cases hlt : i < a1.size
      · have hltz : (i : Int) < (a1.size : Int) := by omega
        have hll : i < a1.data.toList.length := by rw [HLE.out]; exact hlt
        have hel : a1.data.toList[i] = a1[i] := Array.getElem_toList hll
        obtain ⟨z, hz⟩ : ∃ z, z = Lib.indexByte [91, 44, 93] a1[i] := ⟨_, rfl⟩
        have HIX := Aside0.mk (show ∀ W, Calls Try.prog 54 #[.string ⟨#[91, 44, 93]⟩, .int .u8 (a1[i].toNat : Int)] W fun e w' => e = .returned (.int .i64 z) ∧ w' = W from fun W => by
          have h := Try.strings_IndexByte ⟨#[91, 44, 93]⟩ (a1[i].toNat : Int) W
          have e1 : ((a1[i].toNat : Int)).toNat.toUInt8 = a1[i] := by rw [Int.toNat_natCast]; exact UInt8.ofNat_toNat
          rw [e1] at h
          rw [hz]; exact h)
        have HK := Aside0.mk (impl_ParseBracket.keep_succ a1.data.toList hll)
        rw [hel, ← hz] at HK
        have HKL := Aside0.mk (Nat.le_trans (impl_ParseBracket.keep_len (a1.data.toList.take i)) (by rw [List.length_take]; exact Nat.min_le_left _ _))
        have HC := Aside0.mk (show Lib.byteCells [a1[i]] = [.int .u8 (a1[i].toNat : Int)] from rfl)
        clear hz
        by_cases cz : z < 0
        · have hzz : z < 0 := cz
          have HKS := Aside0.mk (show Lib.byteCells (impl_ParseBracket.keepB (a1.data.toList.take (i + 1))) = Lib.byteCells (impl_ParseBracket.keepB (a1.data.toList.take i)) ++ [.int .u8 (a1[i].toNat : Int)] from by
            rw [HK.out, if_pos cz, ← HC.out]; unfold Lib.byteCells; rw [List.map_append])
          go_wp2_with (first
            | (go_at_call 54; refine (HIX.out _).mono ?_; rintro e w2 ⟨rfl, rfl⟩)
            | (go_at_call 55; refine (Go.Proofs.YtmijbppapjcfkaaC.bu_writeByte w1.heap.size w1.heap.size _ (a1[i].toNat : Int) _ HI.out (by have := HKL.out; have := HSM.out; rw [Lib.byteCells_length]; omega) HB.out.size).mono ?_; rintro e w3 ⟨rfl, hI, hb⟩; have HI3 := Aside0.mk hI; have HB3 := Aside0.mk (HB.out.trans hb); clear hI hb))
          go_roundg (a1.size - (i + 1))
          case measure => omega
          case rel => exact ⟨i + 1, by omega, by omega, by have := HSM.out; first | rfl | (congr 1; unfold wrap64; omega), ⟨Or.inr (by rw [HKS.out]; exact HI3.out)⟩, HB3⟩
        · have hzz : ¬ z < 0 := cz
          have HKS := Aside0.mk (show impl_ParseBracket.keepB (a1.data.toList.take (i + 1)) = impl_ParseBracket.keepB (a1.data.toList.take i) from by rw [HK.out, if_neg cz, List.append_nil])
          go_wp2_with (go_at_call 54; refine (HIX.out _).mono ?_; rintro e w2 ⟨rfl, rfl⟩)
          go_roundg (a1.size - (i + 1))
          case measure => omega
          case rel => exact ⟨i + 1, by omega, by omega, by have := HSM.out; first | rfl | (congr 1; unfold wrap64; omega), ⟨by rw [HKS.out]; exact HI.out⟩, HB⟩
      · have hltz : ¬ (i : Int) < (a1.size : Int) := by omega
        have hil : i = a1.data.toList.length := by rw [HLE.out]; omega
        rw [hil, List.take_length] at HI
        have hia : i = a1.size := by omega
        rw [hia]
        rw [hia] at hltz
        clear hil hia hg hi hlt
        have hh := HH.out
        obtain ⟨t2, h2, hh⟩ := Option.bind_eq_some_iff.mp hh
        have H2 := Aside0.mk h2
        cases t2 with
        | false =>
          rw [if_neg (by simp)] at hh
          obtain ⟨rfl, rfl⟩ := Prod.mk.inj (Option.some.inj hh)
          clear hh h2
          go_wp2_with (first
            | (go_at_call 56; refine (HSTR.out _ _ HI.out HB.out.size).mono ?_; rintro e w4 ⟨rfl, hb⟩; have HB4 := Aside0.mk (show Below w1.heap.size w1 w4 from HB.out.trans hb); clear hb)
            | (go_at_call 57; refine (impl_isShort.calls k _ _ _ _ H2.out).mono ?_; rintro e w5 ⟨rfl, hd⟩; have HB5 := Aside0.mk (show Below w1.heap.size w1 w5 from HB4.out.trans (hd.below.mono HB4.out.size)); clear hd))
          go_ret2
          exact ⟨rfl, below_step HB1.out (HB5.out)⟩
        | true =>
          rw [if_pos rfl] at hh
          obtain ⟨t3, h3, hh⟩ := Option.bind_eq_some_iff.mp hh
          have H3 := Aside0.mk h3
          cases t3 with
          | false =>
            rw [if_neg (by simp)] at hh
            obtain ⟨rfl, rfl⟩ := Prod.mk.inj (Option.some.inj hh)
            clear hh h2 h3
            go_wp2_with (first
              | (go_at_call 56; refine (HSTR.out _ _ HI.out HB.out.size).mono ?_; rintro e w4 ⟨rfl, hb⟩; have HB4 := Aside0.mk (show Below w1.heap.size w1 w4 from HB.out.trans hb); clear hb)
              | (go_at_call 57; refine (impl_isShort.calls k _ _ _ _ H2.out).mono ?_; rintro e w5 ⟨rfl, hd⟩; have HB5 := Aside0.mk (show Below w1.heap.size w1 w5 from HB4.out.trans (hd.below.mono HB4.out.size)); clear hd)
              | (go_at_call 58; refine (impl_isLyndon.calls k _ _ _ H3.out).mono ?_; rintro e w6 ⟨rfl, hd⟩; have HB6 := Aside0.mk (show Below w1.heap.size w1 w6 from HB5.out.trans (hd.below.mono HB5.out.size)); clear hd))
            go_ret2
            exact ⟨rfl, below_step HB1.out HB6.out⟩
          | true =>
            rw [if_pos rfl] at hh
            obtain ⟨t4, h4, hh⟩ := Option.bind_eq_some_iff.mp hh
            have H4 := Aside0.mk h4
            by_cases c4 : t4 = a1
            · subst c4
              rw [if_pos rfl] at hh
              obtain ⟨rfl, rfl⟩ := Prod.mk.inj (Option.some.inj hh)
              clear hh h2 h3 h4
              go_wp2_with (first
                | (go_at_call 56; refine (HSTR.out _ _ HI.out HB.out.size).mono ?_; rintro e w4 ⟨rfl, hb⟩; have HB4 := Aside0.mk (show Below w1.heap.size w1 w4 from HB.out.trans hb); clear hb)
                | (go_at_call 57; refine (impl_isShort.calls k _ _ _ _ H2.out).mono ?_; rintro e w5 ⟨rfl, hd⟩; have HB5 := Aside0.mk (show Below w1.heap.size w1 w5 from HB4.out.trans (hd.below.mono HB4.out.size)); clear hd)
                | (go_at_call 58; refine (impl_isLyndon.calls k _ _ _ H3.out).mono ?_; rintro e w6 ⟨rfl, hd⟩; have HB6 := Aside0.mk (show Below w1.heap.size w1 w6 from HB5.out.trans (hd.below.mono HB5.out.size)); clear hd)
                | (go_at_call 59; refine (impl_bracketText.calls k _ _ _ H4.out).mono ?_; rintro e w7 ⟨rfl, hd⟩; have HB7 := Aside0.mk (show Below w1.heap.size w1 w7 from HB6.out.trans (hd.below.mono HB6.out.size)); clear hd))
              go_ret2
              exact ⟨rfl, below_step HB1.out HB7.out⟩
            · rw [if_neg c4] at hh
              obtain ⟨rfl, rfl⟩ := Prod.mk.inj (Option.some.inj hh)
              have he4 : (t4.toList == a1.toList) = false := by
                rw [beq_eq_false_iff_ne]
                exact fun hh => c4 (by
                  rw [ByteArray.toList_eq, ByteArray.toList_eq] at hh
                  exact ByteArray.ext (Array.toList_inj.1 hh))
              clear hh h2 h3 h4
              go_wp2_with (first
                | (go_at_call 56; refine (HSTR.out _ _ HI.out HB.out.size).mono ?_; rintro e w4 ⟨rfl, hb⟩; have HB4 := Aside0.mk (show Below w1.heap.size w1 w4 from HB.out.trans hb); clear hb)
                | (go_at_call 57; refine (impl_isShort.calls k _ _ _ _ H2.out).mono ?_; rintro e w5 ⟨rfl, hd⟩; have HB5 := Aside0.mk (show Below w1.heap.size w1 w5 from HB4.out.trans (hd.below.mono HB4.out.size)); clear hd)
                | (go_at_call 58; refine (impl_isLyndon.calls k _ _ _ H3.out).mono ?_; rintro e w6 ⟨rfl, hd⟩; have HB6 := Aside0.mk (show Below w1.heap.size w1 w6 from HB5.out.trans (hd.below.mono HB5.out.size)); clear hd)
                | (go_at_call 59; refine (impl_bracketText.calls k _ _ _ H4.out).mono ?_; rintro e w7 ⟨rfl, hd⟩; have HB7 := Aside0.mk (show Below w1.heap.size w1 w7 from HB6.out.trans (hd.below.mono HB6.out.size)); clear hd))
              go_ret2
              exact ⟨rfl, below_step HB1.out HB7.out⟩

/-! ### laws_FnExactParseBracket: function 3 -/
def laws_FnExactParseBracket.f (k : Nat) (a0 : Int) (a1 : ByteArray) : Option (Bool) := if (a1.size : Int) > 1048576 then (some true) else ((spec_ParseBracket.f k a0 a1).bind fun bt119 => ((impl_ParseBracket.f k a0 a1).bind fun bt121 => (if bt121.1.toList = bt119.1.toList then (if bt121.2 = bt119.2 then (some true) else (some false)) else (some false))))
theorem laws_FnExactParseBracket.mono : ∀ a0 a1 k, LeO (laws_FnExactParseBracket.f k a0 a1) (laws_FnExactParseBracket.f (k + 1) a0 a1) := by
  intro a0 a1 k
  unfold laws_FnExactParseBracket.f
  repeat' first
      | (with_reducible exact impl_ParseBracket.mono _ _ _)
      | (with_reducible exact spec_ParseBracket.mono _ _ _)
      | (with_reducible exact LeO.refl _)
      | (with_reducible exact LeO.none _)
      | (with_reducible refine LeO.ite ?_ ?_)
      | (with_reducible refine LeO.bind ?_ (fun _ => ?_))
      | exact impl_ParseBracket.mono _ _ _
      | exact spec_ParseBracket.mono _ _ _
      | exact LeO.none _
      | refine LeO.ite ?_ ?_
      | refine LeO.bind ?_ (fun _ => ?_)
set_option maxHeartbeats 8000000 in
set_option maxRecDepth 100000 in
theorem laws_FnExactParseBracket.calls (k : Nat) (a0 : Int) (a1 : ByteArray) (r : Bool) (w : World) (h : laws_FnExactParseBracket.f k a0 a1 = some r) :
    Calls Try.prog 3 #[.int .i64 a0, .string a1] w fun e w' => e = .returned (.bool r) ∧ Below w.heap.size w w' := by
  have HB := Aside0.mk (Below.refl w.heap.size w)
  have H : (if (a1.size : Int) > 1048576 then (some true) else ((spec_ParseBracket.f k a0 a1).bind fun bt119 => ((impl_ParseBracket.f k a0 a1).bind fun bt121 => (if bt121.1.toList = bt119.1.toList then (if bt121.2 = bt119.2 then (some true) else (some false)) else (some false))))) = some r := h
  clear h
  by_cases c3 : (a1.size : Int) > 1048576
  · rw [if_pos c3] at H
    have c3b0 : decide (1048576 < (a1.size : Int)) = true := decide_eq_true c3
    have c3b1 : decide (1048576 < a1.size) = true := decide_eq_true (by omega)
    clear c3
    obtain rfl := Option.some.inj H
    go_enter Try.func3, Try.ntmps3
    go_wp2
    go_ret
    exact ⟨by first | rfl | (simp [errW_none, errW_some] <;> rfl) | (simp [*, errW_none, errW_some] <;> rfl), by repeat (first | (with_reducible first | exact HB.out | apply below_alloc | apply pw_below_drewN | apply below_drew1) | exact HB.out)⟩
  · rw [if_neg c3] at H
    have c3b0 : decide (1048576 < (a1.size : Int)) = false := decide_eq_false c3
    have c3b1 : decide (1048576 < a1.size) = false := decide_eq_false (by omega)
    clear c3
    replace H := Option.bind_eq_some_iff.mp H
    obtain ⟨⟨t119, t120⟩, A40, H⟩ := H
    replace H : ((impl_ParseBracket.f k a0 a1).bind fun bt121 => (if bt121.1.toList = t119.toList then (if bt121.2 = t120 then (some true) else (some false)) else (some false))) = some r := H
    have A4 := Aside0.mk A40
    clear A40
    replace H := Option.bind_eq_some_iff.mp H
    obtain ⟨⟨t121, t122⟩, A50, H⟩ := H
    replace H : (if t121.toList = t119.toList then (if t122 = t120 then (some true) else (some false)) else (some false)) = some r := H
    have A5 := Aside0.mk A50
    clear A50
    by_cases c6 : t121.toList = t119.toList
    · rw [if_pos c6] at H
      have c6b0 : (t121.toList == t119.toList) = true := beq_iff_eq.mpr c6
      have c6b1 : (t121.toList != t119.toList) = false := bne_eq_false_iff_eq.mpr c6
      clear c6
      by_cases c7 : t122 = t120
      · rw [if_pos c7] at H
        have c7b0 : (t122 == t120) = true := beq_iff_eq.mpr c7
        have c7b1 : (t122 != t120) = false := bne_eq_false_iff_eq.mpr c7
        clear c7
        obtain rfl := Option.some.inj H
        go_enter Try.func3, Try.ntmps3
        go_wp2_with (first | ((with_reducible refine gate_callee (f := 8) rfl ?_); refine goesL_ (some 15) rfl rfl Try.func8 (by kernel_rfl) rfl #[.int .i64 a0, .string a1] rfl (by (try simp only [List.map_toArray, List.map_cons, List.map_nil]); first | done | rfl | (simp only [List.length_drop, List.length_take]; rfl)) ?_; (with_reducible refine (spec_ParseBracket.calls k a0 a1 t119 t120 _ A4.out).mono ?_); rintro e w8 ⟨rfl, hb⟩; refine ⟨_, rfl, ?_⟩; have n0_ := Aside0.mk (below_step (by repeat (first | (with_reducible first | exact HB.out | apply below_alloc | apply pw_below_drewN | apply below_drew1) | exact HB.out)) hb); clear HB; have HB := n0_; clear n0_; (try clear hb); (try clear hb2); (try clear hk); (try clear hi)) | ((with_reducible refine gate_callee (f := 9) rfl ?_); refine goesL_ (some 21) rfl rfl Try.func9 (by kernel_rfl) rfl #[.int .i64 a0, .string a1] rfl (by (try simp only [List.map_toArray, List.map_cons, List.map_nil]); first | done | rfl | (simp only [List.length_drop, List.length_take]; rfl)) ?_; (with_reducible refine (impl_ParseBracket.calls k a0 a1 t121 t122 _ A5.out).mono ?_); rintro e w9 ⟨rfl, hb⟩; refine ⟨_, rfl, ?_⟩; have n0_ := Aside0.mk (below_step (by repeat (first | (with_reducible first | exact HB.out | apply below_alloc | apply pw_below_drewN | apply below_drew1) | exact HB.out)) hb); clear HB; have HB := n0_; clear n0_; (try clear hb); (try clear hb2); (try clear hk); (try clear hi)))
        go_ret
        exact ⟨by first | rfl | (simp [errW_none, errW_some] <;> rfl) | (simp [*, errW_none, errW_some] <;> rfl), by repeat (first | (with_reducible first | exact HB.out | apply below_alloc | apply pw_below_drewN | apply below_drew1) | exact HB.out)⟩
      · rw [if_neg c7] at H
        have c7b0 : (t122 == t120) = false := beq_eq_false_iff_ne.mpr c7
        have c7b1 : (t122 != t120) = true := bne_iff_ne.mpr c7
        obtain rfl := Option.some.inj H
        go_enter Try.func3, Try.ntmps3
        go_wp2_with (first | ((with_reducible refine gate_callee (f := 8) rfl ?_); refine goesL_ (some 15) rfl rfl Try.func8 (by kernel_rfl) rfl #[.int .i64 a0, .string a1] rfl (by (try simp only [List.map_toArray, List.map_cons, List.map_nil]); first | done | rfl | (simp only [List.length_drop, List.length_take]; rfl)) ?_; (with_reducible refine (spec_ParseBracket.calls k a0 a1 t119 t120 _ A4.out).mono ?_); rintro e w10 ⟨rfl, hb⟩; refine ⟨_, rfl, ?_⟩; have n0_ := Aside0.mk (below_step (by repeat (first | (with_reducible first | exact HB.out | apply below_alloc | apply pw_below_drewN | apply below_drew1) | exact HB.out)) hb); clear HB; have HB := n0_; clear n0_; (try clear hb); (try clear hb2); (try clear hk); (try clear hi)) | ((with_reducible refine gate_callee (f := 9) rfl ?_); refine goesL_ (some 21) rfl rfl Try.func9 (by kernel_rfl) rfl #[.int .i64 a0, .string a1] rfl (by (try simp only [List.map_toArray, List.map_cons, List.map_nil]); first | done | rfl | (simp only [List.length_drop, List.length_take]; rfl)) ?_; (with_reducible refine (impl_ParseBracket.calls k a0 a1 t121 t122 _ A5.out).mono ?_); rintro e w11 ⟨rfl, hb⟩; refine ⟨_, rfl, ?_⟩; have n0_ := Aside0.mk (below_step (by repeat (first | (with_reducible first | exact HB.out | apply below_alloc | apply pw_below_drewN | apply below_drew1) | exact HB.out)) hb); clear HB; have HB := n0_; clear n0_; (try clear hb); (try clear hb2); (try clear hk); (try clear hi)))
        go_ret
        exact ⟨by first | rfl | (simp [errW_none, errW_some] <;> rfl) | (simp [*, errW_none, errW_some] <;> rfl), by repeat (first | (with_reducible first | exact HB.out | apply below_alloc | apply pw_below_drewN | apply below_drew1) | exact HB.out)⟩
    · rw [if_neg c6] at H
      have c6b0 : (t121.toList == t119.toList) = false := beq_eq_false_iff_ne.mpr c6
      have c6b1 : (t121.toList != t119.toList) = true := bne_iff_ne.mpr c6
      obtain rfl := Option.some.inj H
      go_enter Try.func3, Try.ntmps3
      go_wp2_with (first | ((with_reducible refine gate_callee (f := 8) rfl ?_); refine goesL_ (some 15) rfl rfl Try.func8 (by kernel_rfl) rfl #[.int .i64 a0, .string a1] rfl (by (try simp only [List.map_toArray, List.map_cons, List.map_nil]); first | done | rfl | (simp only [List.length_drop, List.length_take]; rfl)) ?_; (with_reducible refine (spec_ParseBracket.calls k a0 a1 t119 t120 _ A4.out).mono ?_); rintro e w12 ⟨rfl, hb⟩; refine ⟨_, rfl, ?_⟩; have n0_ := Aside0.mk (below_step (by repeat (first | (with_reducible first | exact HB.out | apply below_alloc | apply pw_below_drewN | apply below_drew1) | exact HB.out)) hb); clear HB; have HB := n0_; clear n0_; (try clear hb); (try clear hb2); (try clear hk); (try clear hi)) | ((with_reducible refine gate_callee (f := 9) rfl ?_); refine goesL_ (some 21) rfl rfl Try.func9 (by kernel_rfl) rfl #[.int .i64 a0, .string a1] rfl (by (try simp only [List.map_toArray, List.map_cons, List.map_nil]); first | done | rfl | (simp only [List.length_drop, List.length_take]; rfl)) ?_; (with_reducible refine (impl_ParseBracket.calls k a0 a1 t121 t122 _ A5.out).mono ?_); rintro e w13 ⟨rfl, hb⟩; refine ⟨_, rfl, ?_⟩; have n0_ := Aside0.mk (below_step (by repeat (first | (with_reducible first | exact HB.out | apply below_alloc | apply pw_below_drewN | apply below_drew1) | exact HB.out)) hb); clear HB; have HB := n0_; clear n0_; (try clear hb); (try clear hb2); (try clear hk); (try clear hi)))
      go_ret
      exact ⟨by first | rfl | (simp [errW_none, errW_some] <;> rfl) | (simp [*, errW_none, errW_some] <;> rfl), by repeat (first | (with_reducible first | exact HB.out | apply below_alloc | apply pw_below_drewN | apply below_drew1) | exact HB.out)⟩

/-- THE ONE PURE STATEMENT of laws_FnExactParseBracket: yours. -/
def laws_FnExactParseBracket.Pure : Prop := ∀ (a0 : Int) (a1 : ByteArray), (Lit.int .i64 a0).wf = true → a1.size ≤ 140737488351232 → ∃ k, laws_FnExactParseBracket.f k a0 a1 = some true
theorem laws_FnExactParseBracket.walk (P : laws_FnExactParseBracket.Pure) (a0 : Int) (a1 : ByteArray) (w : World) (w0 : (Lit.int .i64 a0).wf = true) (w1 : a1.size ≤ 140737488351232) :
    Calls Try.prog 3 #[.int .i64 a0, .string a1] w fun e w' => e = .returned (.bool true) ∧ Below w.heap.size w w' := by
  obtain ⟨k, h⟩ := P a0 a1 w0 w1
  refine (laws_FnExactParseBracket.calls k a0 a1 true w h).mono ?_
  rintro e w' ⟨rfl, hd⟩
  exact ⟨rfl, hd⟩

end Go.Proofs.Ytmijbppapjcfkaa.PFnExactParseBracket
