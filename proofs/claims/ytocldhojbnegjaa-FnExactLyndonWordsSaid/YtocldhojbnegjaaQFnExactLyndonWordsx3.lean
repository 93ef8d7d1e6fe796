import Derived.Test.YtocldhojbnegjaaQFnExactLyndonWordsx0
namespace Go.Proofs.Ytocldhojbnegjaa.PFnExactLyndonWords
open Go.RowKit Go.Proofs.YtocldhojbnegjaaW.PrintWords Go.Proofs.YtocldhojbnegjaaW.PrintLast Go.Proofs.YtocldhojbnegjaaW.PrintMore
attribute [local go_sem] max2_int min2_int max_two min_two max_three min_three max_four min_four Go.Proofs.YtocldhojbnegjaaZ.min2_string   -- for this text's walks alone
set_option linter.unusedVariables false
set_option linter.unusedSimpArgs false

/-! ### impl_within: function 76 -/
def impl_within.f (a0 : Int) (a1 : Int) (a2 : Int) : Option (Bool) := if a0 ≥ a1 then (some (decide (a0 ≤ a2))) else (some false)
set_option maxHeartbeats 8000000 in
set_option maxRecDepth 100000 in
theorem impl_within.calls (a0 : Int) (a1 : Int) (a2 : Int) (r : Bool) (w : World) (h : impl_within.f a0 a1 a2 = some r) :
    Calls Try.prog 76 #[.int .i64 a0, .int .i64 a1, .int .i64 a2] w fun e w' => e = .returned (.bool r) ∧ Drawn0 w w' := by
  have H : (if a0 ≥ a1 then (some (decide (a0 ≤ a2))) else (some false)) = some r := h
  clear h
  by_cases c4 : a0 ≥ a1
  · rw [if_pos c4] at H
    have c4b0 : decide (a1 ≤ a0) = true := decide_eq_true c4
    clear c4
    obtain rfl := Option.some.inj H
    go_enter Try.func76, Try.ntmps76
    go_wp2
    go_ret
    exact ⟨by first | rfl | (simp; done) | (simp [*]; done) | (simp [Go.Proofs.YtocldhojbnegjaaZ.bne_nil]; done), by repeat (first | exact Drawn0.refl _ | apply Drawn0.step)⟩
  · rw [if_neg c4] at H
    have c4b0 : decide (a1 ≤ a0) = false := decide_eq_false c4
    clear c4
    obtain rfl := Option.some.inj H
    go_enter Try.func76, Try.ntmps76
    go_wp2
    go_ret
    exact ⟨by first | rfl | (simp; done) | (simp [*]; done) | (simp [Go.Proofs.YtocldhojbnegjaaZ.bne_nil]; done), by repeat (first | exact Drawn0.refl _ | apply Drawn0.step)⟩

/-! ### impl_areLetters: function 67 -/
def impl_areLetters.f (a0 : Int) : Option (Bool) := (impl_within.f a0 1 3).bind fun t140 => (some t140)
set_option maxHeartbeats 8000000 in
set_option maxRecDepth 100000 in
theorem impl_areLetters.calls (a0 : Int) (r : Bool) (w : World) (h : impl_areLetters.f a0 = some r) :
    Calls Try.prog 67 #[.int .i64 a0] w fun e w' => e = .returned (.bool r) ∧ Drawn0 w w' := by
  have H : ((impl_within.f a0 1 3).bind fun t140 => (some t140)) = some r := h
  clear h
  replace H := Option.bind_eq_some_iff.mp H
  obtain ⟨t140, A20, H⟩ := H
  replace H : (some t140) = some r := H
  have A2 := Aside0.mk A20
  clear A20
  obtain rfl := Option.some.inj H
  go_enter Try.func67, Try.ntmps67
  go_wp2_with (first | ((with_reducible refine gate_callee (f := 76) rfl ?_); refine goesL_ (some 4) rfl rfl Try.func76 (by kernel_rfl) rfl #[.int .i64 a0, .int .i64 1, .int .i64 3] rfl (by (try simp only [List.map_toArray, List.map_cons, List.map_nil]); first | done | rfl | (simp only [List.length_drop, List.length_take]; rfl)) ?_; (with_reducible refine (impl_within.calls a0 1 3 t140 _ A2.out).mono ?_); rintro e w' ⟨rfl, ⟨nd, rfl⟩⟩; refine ⟨_, rfl, ?_⟩))
  go_ret
  exact ⟨by first | rfl | (simp; done) | (simp [*]; done) | (simp [Go.Proofs.YtocldhojbnegjaaZ.bne_nil]; done), by repeat (first | exact Drawn0.refl _ | apply Drawn0.step)⟩

/-! ### impl_isLyndon: function 60 -/
def impl_isLyndon.l0 : Nat → ByteArray → Int → Option (Bool)
  | 0, _, _ => none
  | k + 1, x0, x3 => if x3 < (x0.size : Int) then (if 0 ≤ x3 then (if x3 ≤ (x0.size : Int) then (if ((Op.bytesLess x0.toList ((x0.extract (x3 : Int).toNat x0.size).toList)) = true) then (impl_isLyndon.l0 k x0 (wrap64 (x3 + 1))) else (some false)) else (none)) else (none)) else (some (x0.toList != ([] : List UInt8)))
def impl_isLyndon.f (k : Nat) (a0 : ByteArray) : Option (Bool) := impl_isLyndon.l0 k a0 1
theorem impl_isLyndon.mono_l : ∀ k, (∀ y0 y1, LeO (impl_isLyndon.l0 k y0 y1) (impl_isLyndon.l0 (k + 1) y0 y1))
  | 0 => fun _ _ r h => by simp [impl_isLyndon.l0] at h
  | k + 1 => by
    have ih0 := impl_isLyndon.mono_l k
    · intro y0 y1
      unfold impl_isLyndon.l0
      repeat' first
      | (with_reducible exact ih0 _ _)
      | (with_reducible exact LeO.refl _)
      | (with_reducible exact LeO.none _)
      | (with_reducible refine LeO.ite ?_ ?_)
      | (with_reducible refine LeO.bind ?_ (fun _ => ?_))
      | exact ih0 _ _
      | exact LeO.none _
      | refine LeO.ite ?_ ?_
      | refine LeO.bind ?_ (fun _ => ?_)
theorem impl_isLyndon.mono : ∀ a0 k, LeO (impl_isLyndon.f k a0) (impl_isLyndon.f (k + 1) a0) := by
  intro a0 k
  have ih0 := impl_isLyndon.mono_l k
  unfold impl_isLyndon.f
  repeat' first
      | (with_reducible exact ih0 _ _)
      | (with_reducible exact LeO.refl _)
      | (with_reducible exact LeO.none _)
      | (with_reducible refine LeO.ite ?_ ?_)
      | (with_reducible refine LeO.bind ?_ (fun _ => ?_))
      | exact ih0 _ _
      | exact LeO.none _
      | refine LeO.ite ?_ ?_
      | refine LeO.bind ?_ (fun _ => ?_)
set_option maxHeartbeats 8000000 in
set_option maxRecDepth 100000 in
theorem impl_isLyndon.calls (k : Nat) (a0 : ByteArray) (r : Bool) (w : World) (h : impl_isLyndon.f k a0 = some r) :
    Calls Try.prog 60 #[.string a0] w fun e w' => e = .returned (.bool r) ∧ Drawn0 w w' := by
  have H : (impl_isLyndon.l0 k a0 1) = some r := h
  clear h
  have H' := Aside0.mk H
  clear H
  go_enter Try.func60, Try.ntmps60
  go_wp2
  go_loopg [3] k (fun kq v3 w' => ∃ (x3_1 : Int), v3 = .int .i64 x3_1 ∧ Aside0 (impl_isLyndon.l0 kq a0 x3_1 = some r) ∧ Aside0 (kq ≤ k) ∧ Drawn0 w w')
  case atStart => exact ⟨(1), (by first | rfl | (simp; done) | (simp [*]; done)), H', ⟨Nat.le_refl _⟩, by repeat (first | exact Drawn0.refl _ | apply Drawn0.step)⟩
  case round =>
    clear H'
    obtain ⟨x3_1, rfl, HA, HK1, ⟨m1, rfl⟩⟩ := hrel
    cases gk with
    | zero => exact absurd HA.out (by simp [impl_isLyndon.l0])
    | succ k1 =>
      have H := HA.out
      clear HA
      simp only [impl_isLyndon.l0] at H
      by_cases c2 : x3_1 < (a0.size : Int)
      · rw [if_pos c2] at H
        have c2b0 : decide (x3_1 < (a0.size : Int)) = true := decide_eq_true c2
        clear c2
        by_cases c3 : 0 ≤ x3_1
        · rw [if_pos c3] at H
          have c3b0 := eq_true c3
          have c3b1 : decide (0 ≤ x3_1) = true := decide_eq_true c3
          clear c3
          by_cases c4 : x3_1 ≤ (a0.size : Int)
          · rw [if_pos c4] at H
            have c4b0 := eq_true c4
            have c4b1 : decide (x3_1 ≤ (a0.size : Int)) = true := decide_eq_true c4
            clear c4
            by_cases c5 : ((Op.bytesLess a0.toList ((a0.extract (x3_1 : Int).toNat a0.size).toList)) = true)
            · rw [if_pos c5] at H
              have c5b0 : (Op.bytesLess a0.toList ((a0.extract (x3_1 : Int).toNat a0.size).toList)) = true := c5
              have c5b0x : (Op.bytesLess ((a0.extract (x3_1 : Int).toNat a0.size).toList) a0.toList || ((a0.extract (x3_1 : Int).toNat a0.size).toList) == a0.toList) = false := Go.Proofs.YtocldhojbnegjaaZ.less_yes c5b0
              clear c5
              have H' := Aside0.mk H
              clear H
              go_wp2
              go_roundg k1
              case measure => have := HK1.out; omega
              case rel => exact ⟨(wrap64 (x3_1 + 1)), (by first | rfl | (simp; done) | (simp [*]; done)), H', ⟨by have := HK1.out; omega⟩, by repeat (first | exact Drawn0.refl _ | apply Drawn0.step)⟩
            · rw [if_neg c5] at H
              have c5b0 : (Op.bytesLess a0.toList ((a0.extract (x3_1 : Int).toNat a0.size).toList)) = false := by simpa using c5
              have c5b0x : (Op.bytesLess ((a0.extract (x3_1 : Int).toNat a0.size).toList) a0.toList || ((a0.extract (x3_1 : Int).toNat a0.size).toList) == a0.toList) = true := Go.Proofs.YtocldhojbnegjaaZ.less_no c5b0
              clear c5
              obtain rfl := Option.some.inj H
              go_wp2
              go_ret
              exact ⟨by first | rfl | (simp; done) | (simp [*]; done) | (simp [Go.Proofs.YtocldhojbnegjaaZ.bne_nil]; done), by repeat (first | exact Drawn0.refl _ | apply Drawn0.step)⟩
          · rw [if_neg c4] at H
            exact absurd H (by simp)
        · rw [if_neg c3] at H
          exact absurd H (by simp)
      · rw [if_neg c2] at H
        have c2b0 : decide (x3_1 < (a0.size : Int)) = false := decide_eq_false c2
        clear c2
        obtain rfl := Option.some.inj H
        go_wp2
        go_ret
        exact ⟨by first | rfl | (simp; done) | (simp [*]; done) | (simp [Go.Proofs.YtocldhojbnegjaaZ.bne_nil]; done), by repeat (first | exact Drawn0.refl _ | apply Drawn0.step)⟩

-- NOT PRINTED: function 136 (slices_IndexFunc_string_string)

-- NOT PRINTED: function 116 (slices_DeleteFunc_string_string)

/-! ### impl_letter: function 137 -/
def impl_letter.f (a0 : Int) : Option (ByteArray) := some (strOfNums (([(48 + ((a0) % 256)) % 256] : List Int)))
set_option maxHeartbeats 8000000 in
set_option maxRecDepth 100000 in
theorem impl_letter.calls (a0 : Int) (r : ByteArray) (w : World) (h : impl_letter.f a0 = some r) :
    Calls Try.prog 137 #[.int .i64 a0] w fun e w' => e = .returned (.string r) ∧ Below w.heap.size w w' := by
  have HB := Aside0.mk (Below.refl w.heap.size w)
  have H : (some (strOfNums (([(48 + ((a0) % 256)) % 256] : List Int)))) = some r := h
  clear h
  obtain ⟨y141, hy141⟩ : ∃ y_ : List Int, y_ = (([(48 + ((a0) % 256)) % 256] : List Int)) := ⟨_, rfl⟩
  replace H : (some (strOfNums y141)) = some r := by first | (rw [hy141]; with_reducible exact H) | (have H2_ := (Option.bind_some _ _).symm.trans H; rw [hy141]; with_reducible exact H2_) | (have H2_ := (Option.bind_some _ _).symm.trans H; with_reducible exact H2_) | with_reducible exact H | (rw [hy141]; exact H) | exact H
  have Ny141 := Aside0.mk hy141
  clear hy141
  obtain rfl := Option.some.inj H
  go_enter Try.func137, Try.ntmps137
  go_wp2_with (first | ((with_reducible refine gate_dst (N := 6) rfl ?_); refine Kd.R_lit (Kd.int .u8) _ 5 ?hg (N := 6) ?hd (xs := ([(48 + ((a0) % 256)) % 256] : List Int)) (inner := [.int .u8 ((48 + ((a0) % 256)) % 256)]) (ok := fun _ => True) (okp := fun _ => True) ?hr ?hp (fun _ hk => hk) trivial (Below.refl _ _) (Nat.le_refl _) (by simp) ?_; (case hd => rfl); (case hg => rfl); (case hr => first | (go_simp; done) | (go_simp; rfl)); (case hp => exact (Reps.one (show Kd.M (Kd.int .u8) _ _ _ ((48 + ((a0) % 256)) % 256) [.int .u8 ((48 + ((a0) % 256)) % 256)] from rfl) (Reps.none _ _))); intro v142 w2 ho3 hb hg_ hnew_; clear hg_ hnew_; (first | rw [← Ny141.out] at ho3 | (simp only [Int.reduceToNat] at ho3; rw [← Ny141.out] at ho3)); have n0_ := Aside0.mk (Kd.R_lower ho3 (below_size (by repeat (first | (with_reducible first | exact HB.out | apply below_alloc | apply pw_below_drewN | apply below_drew1) | exact HB.out)))); have n1_ := Aside0.mk (below_step (by repeat (first | (with_reducible first | exact HB.out | apply below_alloc | apply pw_below_drewN | apply below_drew1) | exact HB.out)) hb); clear HB; have HO143 := n0_; have HB := n1_; clear n0_ n1_; clear hb ho3; have hcv4 := own_string (P := Try.prog) Try.underlying70 Try.underlying5 Try.underlying9 (Kd.own_of_R HO143.out)))
  go_ret
  exact ⟨by first | rfl | (simp [errW_none, errW_some] <;> rfl) | (simp [*, errW_none, errW_some] <;> rfl), by repeat (first | (with_reducible first | exact HB.out | apply below_alloc | apply pw_below_drewN | apply below_drew1) | exact HB.out)⟩

/-! ### impl_words: function 117 -/
mutual
def impl_words.l0 : Nat → Int → List ByteArray → Int → Int → Option (List ByteArray)
  | 0, _, _, _, _ => none
  | k + 1, x0, x5, x11, x12 => if x12 < x11 then (impl_words.l1 k x0 ([] : List ByteArray) x11 x12 x5 (x5.length : Int) 0) else (some x5)
def impl_words.l1 : Nat → Int → List ByteArray → Int → Int → List ByteArray → Int → Int → Option (List ByteArray)
  | 0, _, _, _, _, _, _, _ => none
  | k + 1, x0, x6, x11, x12, x14, x15, x16 => if x16 < x15 then (if 0 ≤ x16 then (if x16 < (x14.length : Int) then (impl_words.l2 k x0 x6 (rdOf ByteArray.empty x14 x16) x11 x12 x14 x15 x16 x0 0) else (none)) else (none)) else (impl_words.l0 k x0 x6 x11 (wrap64 (x12 + 1)))
def impl_words.l2 : Nat → Int → List ByteArray → ByteArray → Int → Int → List ByteArray → Int → Int → Int → Int → Option (List ByteArray)
  | 0, _, _, _, _, _, _, _, _, _, _ => none
  | k + 1, x0, x6, x8, x11, x12, x14, x15, x16, x20, x21 => if x21 < x20 then ((impl_letter.f x21).bind fun t148 => (if x8.size + t148.size ≤ 9223372036854775807 then (if x6.length < 8796093022208 then (impl_words.l2 k x0 (x6 ++ [x8 ++ t148]) x8 x11 x12 x14 x15 x16 x20 (wrap64 (x21 + 1))) else (none)) else (none))) else (impl_words.l1 k x0 x6 x11 x12 x14 x15 (wrap64 (x16 + 1)))
end
def impl_words.f (k : Nat) (a0 : Int) (a1 : Int) : Option (List ByteArray) := impl_words.l0 k a0 (([(⟨#[]⟩ : ByteArray)] : List ByteArray)) a1 0
theorem impl_words.mono_l : ∀ k, (∀ y0 y1 y2 y3, LeO (impl_words.l0 k y0 y1 y2 y3) (impl_words.l0 (k + 1) y0 y1 y2 y3)) ∧ (∀ y0 y1 y2 y3 y4 y5 y6, LeO (impl_words.l1 k y0 y1 y2 y3 y4 y5 y6) (impl_words.l1 (k + 1) y0 y1 y2 y3 y4 y5 y6)) ∧ (∀ y0 y1 y2 y3 y4 y5 y6 y7 y8 y9, LeO (impl_words.l2 k y0 y1 y2 y3 y4 y5 y6 y7 y8 y9) (impl_words.l2 (k + 1) y0 y1 y2 y3 y4 y5 y6 y7 y8 y9))
  | 0 => ⟨fun _ _ _ _ r h => by simp [impl_words.l0] at h, fun _ _ _ _ _ _ _ r h => by simp [impl_words.l1] at h, fun _ _ _ _ _ _ _ _ _ _ r h => by simp [impl_words.l2] at h⟩
  | k + 1 => by
    obtain ⟨ih0, ih1, ih2⟩ := impl_words.mono_l k
    refine ⟨?_, ?_, ?_⟩
    · intro y0 y1 y2 y3
      unfold impl_words.l0
      repeat' first
      | (with_reducible exact ih0 _ _ _ _)
      | (with_reducible exact ih1 _ _ _ _ _ _ _)
      | (with_reducible exact ih2 _ _ _ _ _ _ _ _ _ _)
      | (with_reducible exact LeO.refl _)
      | (with_reducible exact LeO.none _)
      | (with_reducible refine LeO.ite ?_ ?_)
      | (with_reducible refine LeO.bind ?_ (fun _ => ?_))
      | exact ih0 _ _ _ _
      | exact ih1 _ _ _ _ _ _ _
      | exact ih2 _ _ _ _ _ _ _ _ _ _
      | exact LeO.none _
      | refine LeO.ite ?_ ?_
      | refine LeO.bind ?_ (fun _ => ?_)
    · intro y0 y1 y2 y3 y4 y5 y6
      unfold impl_words.l1
      repeat' first
      | (with_reducible exact ih0 _ _ _ _)
      | (with_reducible exact ih1 _ _ _ _ _ _ _)
      | (with_reducible exact ih2 _ _ _ _ _ _ _ _ _ _)
      | (with_reducible exact LeO.refl _)
      | (with_reducible exact LeO.none _)
      | (with_reducible refine LeO.ite ?_ ?_)
      | (with_reducible refine LeO.bind ?_ (fun _ => ?_))
      | exact ih0 _ _ _ _
      | exact ih1 _ _ _ _ _ _ _
      | exact ih2 _ _ _ _ _ _ _ _ _ _
      | exact LeO.none _
      | refine LeO.ite ?_ ?_
      | refine LeO.bind ?_ (fun _ => ?_)
    · intro y0 y1 y2 y3 y4 y5 y6 y7 y8 y9
      unfold impl_words.l2
      repeat' first
      | (with_reducible exact ih0 _ _ _ _)
      | (with_reducible exact ih1 _ _ _ _ _ _ _)
      | (with_reducible exact ih2 _ _ _ _ _ _ _ _ _ _)
      | (with_reducible exact LeO.refl _)
      | (with_reducible exact LeO.none _)
      | (with_reducible refine LeO.ite ?_ ?_)
      | (with_reducible refine LeO.bind ?_ (fun _ => ?_))
      | exact ih0 _ _ _ _
      | exact ih1 _ _ _ _ _ _ _
      | exact ih2 _ _ _ _ _ _ _ _ _ _
      | exact LeO.none _
      | refine LeO.ite ?_ ?_
      | refine LeO.bind ?_ (fun _ => ?_)
theorem impl_words.mono : ∀ a0 a1 k, LeO (impl_words.f k a0 a1) (impl_words.f (k + 1) a0 a1) := by
  intro a0 a1 k
  obtain ⟨ih0, ih1, ih2⟩ := impl_words.mono_l k
  unfold impl_words.f
  repeat' first
      | (with_reducible exact ih0 _ _ _ _)
      | (with_reducible exact ih1 _ _ _ _ _ _ _)
      | (with_reducible exact ih2 _ _ _ _ _ _ _ _ _ _)
      | (with_reducible exact LeO.refl _)
      | (with_reducible exact LeO.none _)
      | (with_reducible refine LeO.ite ?_ ?_)
      | (with_reducible refine LeO.bind ?_ (fun _ => ?_))
      | exact ih0 _ _ _ _
      | exact ih1 _ _ _ _ _ _ _
      | exact ih2 _ _ _ _ _ _ _ _ _ _
      | exact LeO.none _
      | refine LeO.ite ?_ ?_
      | refine LeO.bind ?_ (fun _ => ?_)
set_option maxHeartbeats 8000000 in
set_option maxRecDepth 100000 in
theorem impl_words.calls (k : Nat) (a0 : Int) (a1 : Int) (r : List ByteArray) (w : World) (h : impl_words.f k a0 a1 = some r) :
    Calls Try.prog 117 #[.int .i64 a0, .int .i64 a1] w fun e w' => ∃ v0_ : Value, e = .returned (v0_) ∧ Kd.R Kd.string 9 w' w.heap.size (fun _ => True) v0_ r ∧ Below w.heap.size w w' := by
  have HB := Aside0.mk (Below.refl w.heap.size w)
  have H : (impl_words.l0 k a0 (([(⟨#[]⟩ : ByteArray)] : List ByteArray)) a1 0) = some r := h
  clear h
  obtain ⟨y144, hy144⟩ : ∃ y_ : List ByteArray, y_ = (([(⟨#[]⟩ : ByteArray)] : List ByteArray)) := ⟨_, rfl⟩
  replace H : (impl_words.l0 k a0 y144 a1 0) = some r := by first | (rw [hy144]; with_reducible exact H) | (have H2_ := (Option.bind_some _ _).symm.trans H; rw [hy144]; with_reducible exact H2_) | (have H2_ := (Option.bind_some _ _).symm.trans H; with_reducible exact H2_) | with_reducible exact H | (rw [hy144]; exact H) | exact H
  have Ny144 := Aside0.mk hy144
  clear hy144
  have H' := Aside0.mk H
  clear H
  go_enter Try.func117, Try.ntmps117
  go_wp2_with (first | ((with_reducible refine gate_dst (N := 10) rfl ?_); refine Kd.R_lit Kd.string _ 9 ?hg (N := 10) ?hd (xs := ([(⟨#[]⟩ : ByteArray)] : List ByteArray)) (inner := [.string (⟨#[]⟩ : ByteArray)]) (ok := fun _ => True) (okp := fun _ => True) ?hr ?hp (fun _ hk => hk) trivial (Below.refl _ _) (Nat.le_refl _) (by simp) ?_; (case hd => rfl); (case hg => rfl); (case hr => first | (go_simp; done) | (go_simp; rfl)); (case hp => exact (Reps.one (show Kd.M Kd.string _ _ _ (⟨#[]⟩ : ByteArray) [.string (⟨#[]⟩ : ByteArray)] from rfl) (Reps.none _ _))); intro v145 w3 ho4 hb hg_ hnew_; clear hg_ hnew_; (first | rw [← Ny144.out] at ho4 | (simp only [Int.reduceToNat] at ho4; rw [← Ny144.out] at ho4)); have n0_ := Aside0.mk (Kd.R_lower ho4 (below_size (by repeat (first | (with_reducible first | exact HB.out | apply below_alloc | apply pw_below_drewN | apply below_drew1) | exact HB.out)))); have n1_ := Aside0.mk (below_step (by repeat (first | (with_reducible first | exact HB.out | apply below_alloc | apply pw_below_drewN | apply below_drew1) | exact HB.out)) hb); clear HB; have HO146 := n0_; have HB := n1_; clear n0_ n1_; clear hb ho4))
  go_loopg [5, 12] k (fun kq v5 v12 w' => ∃ (x5_1 : List ByteArray) (x12_1 : Int), v12 = .int .i64 x12_1 ∧ Aside0 (impl_words.l0 kq a0 x5_1 a1 x12_1 = some r) ∧ Aside0 (kq ≤ k) ∧ Aside0 (Kd.R Kd.string 9 w' w.heap.size (fun _ => True) v5 x5_1) ∧ Aside0 (Below w.heap.size w w'))
  case atStart => exact ⟨(y144), (0), (by first | rfl | (simp; done) | (simp [*]; done)), H', ⟨Nat.le_refl _⟩, ⟨by (with_reducible repeat (first | apply Kd.R_alloc | apply Kd.R_drewN | apply Kd.R_drew)); exact HO146.out⟩, ⟨by repeat (first | (with_reducible first | exact HB.out | apply below_alloc | apply pw_below_drewN | apply below_drew1) | exact HB.out)⟩⟩
  case round =>
    clear H'
    try clear c1
    try clear p2
    obtain ⟨x5_1, x12_1, rfl, HA, HK1, HO_5, HB⟩ := hrel
    cases gk with
    | zero => exact absurd HA.out (by simp [impl_words.l0])
    | succ k1 =>
      have H := HA.out
      clear HA
      simp only [impl_words.l0] at H
      by_cases c5 : x12_1 < a1
      · rw [if_pos c5] at H
        have c5b0 : decide (x12_1 < a1) = true := decide_eq_true c5
        clear c5
        have H' := Aside0.mk H
        clear H
        obtain ⟨Ao6, co6, eo6⟩ := Kd.R_slice HO_5.out
        subst eo6
        go_wp2
        go_loopg [6, 16] k1 (fun kq v6 v16 w' => ∃ (x6_2 : List ByteArray) (x16_2 : Int), v16 = .int .i64 x16_2 ∧ Aside0 (impl_words.l1 kq a0 x6_2 a1 x12_1 x5_1 (x5_1.length : Int) x16_2 = some r) ∧ Aside0 (kq ≤ k1) ∧ Aside0 (Kd.R Kd.string 9 w' w.heap.size (fun k_ => some k_ ≠ ((.slice Ao6 x5_1.length co6) : Value).ownBlock) v6 x6_2) ∧ Aside0 (Kd.R Kd.string 9 w' w.heap.size (fun k_ => some k_ ≠ (v6 : Value).ownBlock) (.slice Ao6 x5_1.length co6) x5_1) ∧ Aside0 (Below w.heap.size w w'))
        case atStart => exact ⟨(([] : List ByteArray)), (0), (by first | rfl | (simp; done) | (simp [*]; done)), H', ⟨Nat.le_refl _⟩, ⟨by first | exact Kd.R_nil _ _ _ _ _ | exact Kd.N_nil _ _ _ _ _ | exact Kd.V_nil _ _ _ _ _ | exact Kd.Q_nil _ _ _ _ _ | exact Kd.S_nil _ _ _ _ _⟩, ⟨by (with_reducible repeat (first | apply Kd.R_alloc | apply Kd.R_drewN | apply Kd.R_drew)); exact Kd.R_mono HO_5.out (fun _ hk => (by simp [Value.ownBlock]))⟩, ⟨by repeat (first | (with_reducible first | exact HB.out | apply below_alloc | apply pw_below_drewN | apply below_drew1) | exact HB.out)⟩⟩
        case round =>
          clear H'
          try clear c1
          try clear p2
          try clear c5
          try clear c5b0
          try clear p2
          obtain ⟨x6_2, x16_2, rfl, HA, HK2, HO_6, HO_14, HB⟩ := hrel
          cases gk with
          | zero => exact absurd HA.out (by simp [impl_words.l1])
          | succ k2 =>
            have H := HA.out
            clear HA
            simp only [impl_words.l1] at H
            by_cases c7 : x16_2 < (x5_1.length : Int)
            · rw [if_pos c7] at H
              have c7b0 : decide (x16_2 < (x5_1.length : Int)) = true := decide_eq_true c7
              clear c7
              by_cases c8 : 0 ≤ x16_2
              · rw [if_pos c8] at H
                have c8b0 : decide (0 ≤ x16_2) = true := decide_eq_true c8
                clear c8
                by_cases c9 : x16_2 < (x5_1.length : Int)
                · rw [if_pos c9] at H
                  have c9b0 : decide (x16_2 < (x5_1.length : Int)) = true := decide_eq_true c9
                  clear c9
                  have H' := Aside0.mk H
                  clear H
                  have p147 : 0 ≤ (x16_2 : Int) := of_decide_eq_true (by first | (with_reducible assumption) | assumption)
                  have q147 : x16_2 < (x5_1.length : Int) := of_decide_eq_true (by first | (with_reducible assumption) | assumption)
                  obtain ⟨ad147, e147, hx147_0⟩ := Kd.at_string (Kd.R_reads' HO_14.out).2.2 x16_2 p147 q147
                  cases e147
                  replace p147 := eq_true p147
                  replace q147 := eq_true q147
                  go_wp2
                  go_loopg [6, 21] k2 (fun kq v6 v21 w' => ∃ (x6_3 : List ByteArray) (x21_3 : Int), v21 = .int .i64 x21_3 ∧ Aside0 (impl_words.l2 kq a0 x6_3 (rdOf ByteArray.empty x5_1 x16_2) a1 x12_1 x5_1 (x5_1.length : Int) x16_2 a0 x21_3 = some r) ∧ Aside0 (kq ≤ k2) ∧ Aside0 (Kd.R Kd.string 9 w' w.heap.size (fun k_ => some k_ ≠ ((.slice (some ad147) x5_1.length co6) : Value).ownBlock) v6 x6_3) ∧ Aside0 (Kd.R Kd.string 9 w' w.heap.size (fun k_ => some k_ ≠ (v6 : Value).ownBlock) (.slice (some ad147) x5_1.length co6) x5_1) ∧ Aside0 (Below w.heap.size w w'))
                  case atStart => exact ⟨(x6_2), (0), (by first | rfl | (simp; done) | (simp [*]; done)), H', ⟨Nat.le_refl _⟩, ⟨by (with_reducible repeat (first | apply Kd.R_alloc | apply Kd.R_drewN | apply Kd.R_drew)); exact HO_6.out⟩, ⟨by (with_reducible repeat (first | apply Kd.R_alloc | apply Kd.R_drewN | apply Kd.R_drew)); exact HO_14.out⟩, ⟨by repeat (first | (with_reducible first | exact HB.out | apply below_alloc | apply pw_below_drewN | apply below_drew1) | exact HB.out)⟩⟩
                  case round =>
                    clear H'
                    try clear c1
                    try clear p1
                    try clear q1
                    try clear hx1
                    try clear p2
                    try clear c5
                    try clear c5b0
                    try clear c7
                    try clear c7b0
                    try clear c8
                    try clear c8b0
                    try clear c9
                    try clear c9b0
                    try clear hx147_0
                    try clear p147
                    try clear p2
                    try clear q147
                    obtain ⟨x6_3, x21_3, rfl, HA, HK3, HO_6, HO_14, HB⟩ := hrel
                    cases gk with
                    | zero => exact absurd HA.out (by simp [impl_words.l2])
                    | succ k3 =>
                      have H := HA.out
                      clear HA
                      simp only [impl_words.l2] at H
                      by_cases c10 : x21_3 < a0
                      · rw [if_pos c10] at H
                        have c10b0 : decide (x21_3 < a0) = true := decide_eq_true c10
                        clear c10
                        replace H := Option.bind_eq_some_iff.mp H
                        obtain ⟨t148, A110, H⟩ := H
                        replace H : (if (rdOf ByteArray.empty x5_1 x16_2).size + t148.size ≤ 9223372036854775807 then (if x6_3.length < 8796093022208 then (impl_words.l2 k3 a0 (x6_3 ++ [(rdOf ByteArray.empty x5_1 x16_2) ++ t148]) (rdOf ByteArray.empty x5_1 x16_2) a1 x12_1 x5_1 (x5_1.length : Int) x16_2 a0 (wrap64 (x21_3 + 1))) else (none)) else (none)) = some r := H
                        have A11 := Aside0.mk A110
                        clear A110
                        by_cases c12 : (rdOf ByteArray.empty x5_1 x16_2).size + t148.size ≤ 9223372036854775807
                        · rw [if_pos c12] at H
                          have c12b0 := eq_true c12
                          have c12b1 : decide ((rdOf ByteArray.empty x5_1 x16_2).size + t148.size ≤ 9223372036854775807) = true := decide_eq_true c12
                          try have c12b2 : (9223372036854775807 < (rdOf ByteArray.empty x5_1 x16_2).size + t148.size) = False := eq_false (Nat.not_lt.2 c12)
                          by_cases c13 : x6_3.length < 8796093022208
                          · rw [if_pos c13] at H
                            have LMc13 := Aside0.mk c13
                            clear c13
                            obtain ⟨y149, hy149⟩ : ∃ y_ : List ByteArray, y_ = (x6_3 ++ [(rdOf ByteArray.empty x5_1 x16_2) ++ t148]) := ⟨_, rfl⟩
                            replace H : (impl_words.l2 k3 a0 y149 (rdOf ByteArray.empty x5_1 x16_2) a1 x12_1 x5_1 (x5_1.length : Int) x16_2 a0 (wrap64 (x21_3 + 1))) = some r := by first | (rw [hy149]; with_reducible exact H) | (have H2_ := (Option.bind_some _ _).symm.trans H; rw [hy149]; with_reducible exact H2_) | (have H2_ := (Option.bind_some _ _).symm.trans H; with_reducible exact H2_) | with_reducible exact H | (rw [hy149]; exact H) | exact H
                            have Ny149 := Aside0.mk hy149
                            clear hy149
                            have H' := Aside0.mk H
                            clear H
                            go_wp2_with (first | ((with_reducible refine gate_callee (f := 137) rfl ?_); refine goesL_ (some 27) rfl rfl Try.func137 (by kernel_rfl) rfl #[.int .i64 x21_3] rfl (by (try simp only [List.map_toArray, List.map_cons, List.map_nil]); first | done | rfl | (simp only [List.length_drop, List.length_take]; rfl)) ?_; (with_reducible refine (impl_letter.calls x21_3 t148 _ A11.out).mono ?_); rintro e w14 ⟨rfl, hb⟩; refine ⟨_, rfl, ?_⟩; have n0_ := Aside0.mk (Kd.R_below (by (with_reducible repeat (first | apply Kd.R_alloc | apply Kd.R_drewN | apply Kd.R_drew)); exact HO_6.out) hb); have n1_ := Aside0.mk (Kd.R_below (by (with_reducible repeat (first | apply Kd.R_alloc | apply Kd.R_drewN | apply Kd.R_drew)); exact HO_14.out) hb); have n2_ := Aside0.mk (below_step (by repeat (first | (with_reducible first | exact HB.out | apply below_alloc | apply pw_below_drewN | apply below_drew1) | exact HB.out)) hb); clear HO_6; clear HO_14; clear HB; have HO_6 := n0_; have HO_14 := n1_; have HB := n2_; clear n0_ n1_ n2_; (try clear hb); (try clear hb2); (try clear hk); (try clear hi)) | ((with_reducible refine gate_builtin (b := .append) (xs := #[.tmp 24, .tmp 29]) rfl ?_); at_builtin; refine Kd.R_append Kd.string (w0 := w) w.heap.size rfl (.tmp 24) (.tmp 29) 22 9 (.string ⟨#[]⟩) 16 rfl Try.underlying22 info9 rfl (by decide) (by omega) u6 x6_3 ((rdOf ByteArray.empty x5_1 x16_2) ++ t148) [.string ((rdOf ByteArray.empty x5_1 x16_2) ++ t148)] (fun k_ => some k_ ≠ (.slice (some ad147) x5_1.length co6 : Value).ownBlock) (fun _ => False) rfl rfl ?aP (fun _ hk => hk.elim) ?aF ?aO ?aB ?aS ?aL ?_; (case aP => exact rfl); (case aB => exact (by repeat (first | (with_reducible first | exact HB.out | apply below_alloc | apply pw_below_drewN | apply below_drew1) | exact HB.out))); (case aF => exact (fun k_ hk => Kd.fresh' (Kd.R_lt (by (with_reducible repeat (first | apply Kd.R_alloc | apply Kd.R_drewN | apply Kd.R_drew)); exact HO_14.out)) k_ hk)); (case aO => exact (by (with_reducible repeat (first | apply Kd.R_alloc | apply Kd.R_drewN | apply Kd.R_drew)); exact HO_6.out)); (case aS => exact (below_size (by repeat (first | (with_reducible first | exact HB.out | apply below_alloc | apply pw_below_drewN | apply below_drew1) | exact HB.out)))); (case aL => have := LMc13.out; omega); intro v150 w15 ho hb hg hat; rw [← Ny149.out] at ho; have n0_ := Aside0.mk (Kd.R_after (ok := (fun _ => True)) (by (with_reducible repeat (first | apply Kd.R_alloc | apply Kd.R_drewN | apply Kd.R_drew)); exact Kd.R_mono HO_14.out (fun _ hk => ⟨trivial, hk⟩)) hg hat); have n1_ := Aside0.mk (hb); have n2_ := Aside0.mk (ho); clear HO_14; clear HB; clear HO_6; have HO_14 := n0_; have HB := n1_; have HO151 := n2_; clear n0_ n1_ n2_; clear ho hb hg hat))
                            go_roundg k3
                            case measure => have := HK1.out; have := HK2.out; have := HK3.out; omega
                            case rel => exact ⟨(y149), (wrap64 (x21_3 + 1)), (by first | rfl | (simp; done) | (simp [*]; done)), H', ⟨by have := HK1.out; have := HK2.out; have := HK3.out; omega⟩, ⟨by (with_reducible repeat (first | apply Kd.R_alloc | apply Kd.R_drewN | apply Kd.R_drew)); exact HO151.out⟩, ⟨by (with_reducible repeat (first | apply Kd.R_alloc | apply Kd.R_drewN | apply Kd.R_drew)); exact Kd.R_mono HO_14.out (fun _ hk => hk.2)⟩, ⟨by repeat (first | (with_reducible first | exact HB.out | apply below_alloc | apply pw_below_drewN | apply below_drew1) | exact HB.out)⟩⟩
                          · rw [if_neg c13] at H
                            exact absurd H (by simp)
                        · rw [if_neg c12] at H
                          exact absurd H (by simp)
                      · rw [if_neg c10] at H
                        have c10b0 : decide (x21_3 < a0) = false := decide_eq_false c10
                        clear c10
                        have H' := Aside0.mk H
                        clear H
                        go_wp2
                        go_roundg k3
                        case measure => have := HK1.out; have := HK2.out; have := HK3.out; omega
                        case rel => exact ⟨(x6_3), (wrap64 (x16_2 + 1)), (by first | rfl | (simp; done) | (simp [*]; done)), H', ⟨by have := HK1.out; have := HK2.out; have := HK3.out; omega⟩, ⟨by (with_reducible repeat (first | apply Kd.R_alloc | apply Kd.R_drewN | apply Kd.R_drew)); exact HO_6.out⟩, ⟨by (with_reducible repeat (first | apply Kd.R_alloc | apply Kd.R_drewN | apply Kd.R_drew)); exact HO_14.out⟩, ⟨by repeat (first | (with_reducible first | exact HB.out | apply below_alloc | apply pw_below_drewN | apply below_drew1) | exact HB.out)⟩⟩
                · rw [if_neg c9] at H
                  exact absurd H (by simp)
              · rw [if_neg c8] at H
                exact absurd H (by simp)
            · rw [if_neg c7] at H
              have c7b0 : decide (x16_2 < (x5_1.length : Int)) = false := decide_eq_false c7
              clear c7
              have H' := Aside0.mk H
              clear H
              go_wp2
              go_roundg k2
              case measure => have := HK1.out; have := HK2.out; omega
              case rel => exact ⟨(x6_2), (wrap64 (x12_1 + 1)), (by first | rfl | (simp; done) | (simp [*]; done)), H', ⟨by have := HK1.out; have := HK2.out; omega⟩, ⟨by (with_reducible repeat (first | apply Kd.R_alloc | apply Kd.R_drewN | apply Kd.R_drew)); exact Kd.R_mono HO_6.out (fun _ hk => trivial)⟩, ⟨by repeat (first | (with_reducible first | exact HB.out | apply below_alloc | apply pw_below_drewN | apply below_drew1) | exact HB.out)⟩⟩
      · rw [if_neg c5] at H
        have c5b0 : decide (x12_1 < a1) = false := decide_eq_false c5
        clear c5
        obtain rfl := Option.some.inj H
        go_wp2
        go_ret
        exact ⟨_, by first | rfl | (simp [errW_none, errW_some] <;> rfl) | (simp [*, errW_none, errW_some] <;> rfl), by (with_reducible repeat (first | apply Kd.R_alloc | apply Kd.R_drewN | apply Kd.R_drew)); exact HO_5.out, by repeat (first | (with_reducible first | exact HB.out | apply below_alloc | apply pw_below_drewN | apply below_drew1) | exact HB.out)⟩

/-! ### impl_lyndons: function 82 -/
theorem impl_lyndons.ends (s : ByteArray) (hn : s.size ≤ 1000000) (n : Nat) : ∀ (k : Nat) (i : Int), 0 ≤ i → (s.size : Int) - i ≤ n → n < k → ∃ b, impl_isLyndon.l0 k s i = some b := by
  induction n with
  | zero =>
    intro k i h0 hd hk
    obtain ⟨k, rfl⟩ : ∃ m, k = m + 1 := ⟨k - 1, by omega⟩
    simp only [impl_isLyndon.l0]; rw [if_neg (by omega)]; exact ⟨_, rfl⟩
  | succ n ih =>
    intro k i h0 hd hk
    obtain ⟨k, rfl⟩ : ∃ m, k = m + 1 := ⟨k - 1, by omega⟩
    simp only [impl_isLyndon.l0]
    by_cases c : i < (s.size : Int)
    · rw [if_pos c, if_pos h0, if_pos (by omega)]
      split
      · rw [show wrap64 (i + 1) = i + 1 from by unfold wrap64; omega]
        exact ih k (i + 1) (by omega) (by omega) (by omega)
      · exact ⟨_, rfl⟩
    · rw [if_neg c]; exact ⟨_, rfl⟩
/-- Is it a Lyndon word? -/
def impl_lyndons.lyn (s : ByteArray) : Bool := (impl_isLyndon.f (s.size + 2) s).getD false
theorem impl_lyndons.lyn_is (s : ByteArray) (hn : s.size ≤ 1000000) : impl_isLyndon.f (s.size + 2) s = some (impl_lyndons.lyn s) := by
  obtain ⟨b, hb⟩ := impl_lyndons.ends s hn s.size (s.size + 2) 1 (by omega) (by omega) (by omega)
  unfold impl_lyndons.lyn impl_isLyndon.f
  rw [hb]; rfl
def impl_lyndons.f (k : Nat) (a0 : Int) (a1 : Int) : Option (List ByteArray) := (impl_words.f k a0 a1).bind fun ws => if ws ≠ [] ∧ ∀ s ∈ ws, s.size ≤ 1000000 then some (ws.filter impl_lyndons.lyn) else none
theorem impl_lyndons.mono : ∀ a0 a1 k, LeO (impl_lyndons.f k a0 a1) (impl_lyndons.f (k + 1) a0 a1) := fun a0 a1 k => LeO.bind (impl_words.mono _ _ _) (fun _ => LeO.refl _)
structure impl_lyndons.A where
  s : ByteArray
  small : s.size ≤ 1000000
def impl_lyndons.z : impl_lyndons.A := ⟨⟨#[]⟩, by decide⟩
instance : Inhabited impl_lyndons.A := ⟨impl_lyndons.z⟩
def impl_lyndons.enc (x : impl_lyndons.A) : Value := .string x.s
theorem impl_lyndons.pred (x : impl_lyndons.A) (W : World) : FnGives Try.prog 118 #[] #[impl_lyndons.enc x] (.bool (!impl_lyndons.lyn x.s)) W := by
  have hc := impl_isLyndon.calls (x.s.size + 2) x.s (impl_lyndons.lyn x.s) W (impl_lyndons.lyn_is x.s x.small)
  show Calls Try.prog 118 #[.string x.s] W _
  generalize x.s = s at hc
  generalize impl_lyndons.lyn s = b at hc
  go_enter Try.func118, Try.ntmps118
  go_wp2_with (go_at_call 60; refine hc.mono ?_; rintro e w' ⟨rfl, ⟨nd, rfl⟩⟩)
  go_ret
  exact ⟨rfl, nd, rfl⟩
open Go.Sort in
theorem impl_lyndons.block (w : World) (g q : Nat) (d : Array impl_lyndons.A) (cur : Array Value) (e : TypeId) (hg : w.heap[g]? = some (.cells cur e (0, 0))) :
    (putRow impl_lyndons.enc (Sort.ahead w q) g 0 d).heap[g]? = some (.cells (putCells impl_lyndons.enc 0 d cur) e (0, 0)) ∧ ∀ k, k ≠ g → (putRow impl_lyndons.enc (Sort.ahead w q) g 0 d).heap[k]? = w.heap[k]? := by
  unfold putRow mapBlock
  refine ⟨?_, fun k hk => ?_⟩
  · simp only [Array.getElem?_modify, heap_ahead, if_true, hg, Option.map_some, onCells]
  · simp only [Array.getElem?_modify, heap_ahead]
    rw [if_neg (fun h => hk h.symm)]
open Go.Sort in
set_option maxHeartbeats 2000000 in
theorem impl_lyndons.delete (w0 w : World) (v : Value) (ws : List ByteArray) (hB : Below w0.heap.size w0 w) (hne : ws ≠ []) (hs : ∀ s ∈ ws, s.size ≤ 1000000) (ho : Kd.R Kd.string 9 w w0.heap.size (fun _ => True) v ws) :
    Calls Try.prog 116 #[v, .func (.func 118) #[] #[]] w fun e w' => ∃ v0_ : Value, e = .returned (v0_) ∧ Kd.R Kd.string 9 w' w0.heap.size (fun _ => True) v0_ (ws.filter impl_lyndons.lyn) ∧ Below w0.heap.size w0 w' := by
  have hown := Kd.own_of_R ho
  obtain ⟨hlen, hcase⟩ := hown
  have hwl : 0 < ws.length := List.length_pos_iff.2 hne
  rcases hcase with ⟨_, h0⟩ | ⟨g, cap, cur, rfl, hbase, hheap, hcap, hmax, hsize, htake⟩
  · omega
  · rw [Nat.mul_one] at htake hsize
    obtain ⟨l, hl⟩ : ∃ l : List impl_lyndons.A, l.map (fun x => x.s) = ws := ⟨ws.attach.map (fun x => ⟨x.1, hs x.1 x.2⟩), by rw [List.map_map]; exact List.attach_map_subtype_val ws⟩
    have hll : l.length = ws.length := by rw [← hl, List.length_map]
    have hgl : g < w.heap.size := (Array.getElem?_eq_some_iff.1 hheap).1
    have hcur : ∀ j (hj : j < ws.length), cur[j]? = some (.string ws[j]) := fun j hj => by
      have h1 : (cur.toList.take ws.length)[j]? = some (.string ws[j]) := by rw [htake]; simp [encs, hj]
      rw [List.getElem?_take, if_pos hj, Array.getElem?_toList] at h1
      exact h1
    have hH : Holds impl_lyndons.enc w g 0 l.toArray := by
      intro j hj
      have hj' : j < ws.length := by rw [← hll]; simpa using hj
      have hx : l.toArray[j]! = l[j]'(by omega) := by rw [getElem!_pos l.toArray j hj]; simp
      refine ⟨?_, ?_⟩
      · rw [hx]
        have e1 : (l[j]'(by omega)).s = ws[j] := by simp [← hl]
        rw [Nat.zero_add, blk_cell hheap, hcur j hj']
        show some (Value.string ws[j]) = some (Value.string (l[j]'(by omega)).s)
        rw [e1]
      · exact blk_frozen hheap _
    have hdel := Try.slices_DeleteFunc impl_lyndons.enc (fun _ => rfl) (fun x => !impl_lyndons.lyn x.s) 118 #[] (enters_of Try.func118 (by kernel_rfl) rfl) impl_lyndons.z (fun w => by kernel_rfl) g 0 cap l.toArray w
      (fun W x _ => impl_lyndons.pred x W) (fun _ _ _ x _ => impl_lyndons.pred x _) hH (by simp [hll]; unfold maxLen at hmax; omega) (by simp [hll]; omega)
    have hsz : l.toArray.size = ws.length := by simp [hll]
    rw [hsz] at hdel
    refine hdel.mono ?_
    rintro e w' ⟨rfl, q, rfl⟩
    have hfil : (l.toArray.toList.filter fun x => !!impl_lyndons.lyn x.s).map (fun x => x.s) = ws.filter impl_lyndons.lyn := by
      simp only [Bool.not_not]
      rw [← hl, List.filter_map]; rfl
    have hfl : (l.toArray.toList.filter fun x => !!impl_lyndons.lyn x.s).length = (ws.filter impl_lyndons.lyn).length := by rw [← hfil, List.length_map]
    generalize hF : (l.toArray.toList.filter fun x => !!impl_lyndons.lyn x.s) = F at hfil hfl ⊢
    have hle : F.length ≤ ws.length := by rw [hfl]; exact List.length_filter_le _ _
    obtain ⟨hb1, hb2⟩ := impl_lyndons.block w g q (F ++ List.replicate (ws.length - F.length) impl_lyndons.z).toArray cur _ hheap
    have hsz' := size_putRow impl_lyndons.enc (Sort.ahead w q) g 0 (F ++ List.replicate (ws.length - F.length) impl_lyndons.z).toArray
    have h3 : (putRow impl_lyndons.enc (Sort.ahead w q) g 0 (F ++ List.replicate (ws.length - F.length) impl_lyndons.z).toArray).os = w.os ∧ (putRow impl_lyndons.enc (Sort.ahead w q) g 0 (F ++ List.replicate (ws.length - F.length) impl_lyndons.z).toArray).tape = w.tape ∧ (putRow impl_lyndons.enc (Sort.ahead w q) g 0 (F ++ List.replicate (ws.length - F.length) impl_lyndons.z).toArray).output = w.output := ⟨rfl, rfl, rfl⟩
    have hpc : (putCells impl_lyndons.enc 0 (F ++ List.replicate (ws.length - F.length) impl_lyndons.z).toArray cur).size = cap := by simp [putCells, hsize]
    have hpt : (putCells impl_lyndons.enc 0 (F ++ List.replicate (ws.length - F.length) impl_lyndons.z).toArray cur).toList.take F.length = encs Value.string (ws.filter impl_lyndons.lyn) := by
      rw [← hfil]
      apply List.ext_getElem?
      intro j
      by_cases hj : j < F.length
      · rw [List.getElem?_take, if_pos hj, Array.getElem?_toList]
        unfold putCells
        rw [Array.getElem?_mapIdx]
        have hjc : j < cur.size := by omega
        rw [Array.getElem?_eq_getElem hjc, Option.map_some]
        have hjs : j < (F ++ List.replicate (ws.length - F.length) impl_lyndons.z).toArray.size := by simp; omega
        rw [if_pos ⟨by omega, by omega⟩, Nat.sub_zero, getElem!_pos _ j hjs]
        have e2 : (F ++ List.replicate (ws.length - F.length) impl_lyndons.z).toArray[j]'hjs = F[j] := by simp [List.getElem_append_left hj]
        rw [e2]
        simp [encs, hj, impl_lyndons.enc]
      · rw [List.getElem?_eq_none (by simp; omega), List.getElem?_eq_none (by simp [encs]; omega)]
    generalize putRow impl_lyndons.enc (Sort.ahead w q) g 0 (F ++ List.replicate (ws.length - F.length) impl_lyndons.z).toArray = W' at hb1 hb2 hsz' h3 ⊢
    generalize putCells impl_lyndons.enc 0 (F ++ List.replicate (ws.length - F.length) impl_lyndons.z).toArray cur = pc at hb1 hpc hpt
    refine ⟨_, rfl, ?_, ?_⟩
    · rw [hfl] at hpt hle ⊢
      exact Kd.R_of_own ⟨by simp [encs], .inr ⟨g, cap, pc, rfl, hbase, hb1, by omega, hmax, by omega, by rw [Nat.mul_one]; exact hpt⟩⟩ (fun _ _ => trivial)
    · exact ⟨h3.1.trans hB.os, h3.2.1.trans hB.tape, h3.2.2.trans hB.output, by rw [hsz']; exact hB.size, fun k hk => by rw [hb2 k (by omega)]; exact hB.block k hk⟩
set_option maxHeartbeats 2000000 in
theorem impl_lyndons.calls (k : Nat) (a0 : Int) (a1 : Int) (r : List ByteArray) (w : World) (h : impl_lyndons.f k a0 a1 = some r) :
    Calls Try.prog 82 #[.int .i64 a0, .int .i64 a1] w fun e w' => ∃ v0_ : Value, e = .returned (v0_) ∧ Kd.R Kd.string 9 w' w.heap.size (fun _ => True) v0_ r ∧ Below w.heap.size w w' := by
  unfold impl_lyndons.f at h
  obtain ⟨ws, hws, h⟩ := Option.bind_eq_some_iff.1 h
  by_cases c : ws ≠ [] ∧ ∀ s ∈ ws, s.size ≤ 1000000
  · rw [if_pos c] at h
    obtain rfl := Option.some.inj h
    have HC := Aside0.mk c
    have HW := Aside0.mk hws
    clear c hws h
    have hd := fun (W : World) (v : Value) (hB : Below w.heap.size w W) (ho : Kd.R Kd.string 9 W w.heap.size (fun _ => True) v ws) => impl_lyndons.delete w W v ws hB HC.out.1 HC.out.2 ho
    have HD := Aside0.mk hd
    clear hd
    generalize ws.filter impl_lyndons.lyn = r at HD
    go_enter Try.func82, Try.ntmps82
    go_wp2_with (first | (go_at_call 117; refine (impl_words.calls k a0 a1 ws _ HW.out).mono ?_; rintro e w' ⟨v1, rfl, ho, hb⟩; have HO := Aside0.mk ho; have HB := Aside0.mk hb; clear ho hb) | (go_at_call 116; refine (HD.out _ _ HB.out HO.out).mono ?_; rintro e w' ⟨v2, rfl, ho2, hb2⟩; have HO2 := Aside0.mk ho2; have HB2 := Aside0.mk hb2; clear ho2 hb2))
    go_ret
    exact ⟨_, rfl, HO2.out, HB2.out⟩
  · rw [if_neg c] at h; cases h

/-! ### impl_LyndonWords: function 41 -/
def impl_LyndonWords.j0 : Nat → Int → Int → Bool → Option (List ByteArray × Int)
  | 0, _, _, _ => none
  | k + 1, x0, x1, x14 => if x14 = true then (some (([] : List ByteArray), 2)) else ((impl_lyndons.f k x0 x1).bind fun t154 => (if (t154.length : Int) > 400 then (some (([] : List ByteArray), 3)) else (some (t154, 0))))
def impl_LyndonWords.f (k : Nat) (a0 : Int) (a1 : Int) : Option (List ByteArray × Int) := (impl_areLetters.f a0).bind fun t152 => (if t152 = true then ((impl_within.f a1 1 8).bind fun t153 => (impl_LyndonWords.j0 k a0 a1 (!t153))) else (impl_LyndonWords.j0 k a0 a1 true))
theorem impl_LyndonWords.mono_l : ∀ k, (∀ y0 y1 y2, LeO (impl_LyndonWords.j0 k y0 y1 y2) (impl_LyndonWords.j0 (k + 1) y0 y1 y2))
  | 0 => fun _ _ _ r h => by simp [impl_LyndonWords.j0] at h
  | k + 1 => by
    have ih0 := impl_LyndonWords.mono_l k
    · intro y0 y1 y2
      unfold impl_LyndonWords.j0
      repeat' first
      | (with_reducible exact ih0 _ _ _)
      | (with_reducible exact impl_lyndons.mono _ _ _)
      | (with_reducible exact LeO.refl _)
      | (with_reducible exact LeO.none _)
      | (with_reducible refine LeO.ite ?_ ?_)
      | (with_reducible refine LeO.bind ?_ (fun _ => ?_))
      | exact ih0 _ _ _
      | exact impl_lyndons.mono _ _ _
      | exact LeO.none _
      | refine LeO.ite ?_ ?_
      | refine LeO.bind ?_ (fun _ => ?_)
theorem impl_LyndonWords.mono : ∀ a0 a1 k, LeO (impl_LyndonWords.f k a0 a1) (impl_LyndonWords.f (k + 1) a0 a1) := by
  intro a0 a1 k
  have ih0 := impl_LyndonWords.mono_l k
  unfold impl_LyndonWords.f
  repeat' first
      | (with_reducible exact ih0 _ _ _)
      | (with_reducible exact impl_lyndons.mono _ _ _)
      | (with_reducible exact LeO.refl _)
      | (with_reducible exact LeO.none _)
      | (with_reducible refine LeO.ite ?_ ?_)
      | (with_reducible refine LeO.bind ?_ (fun _ => ?_))
      | exact ih0 _ _ _
      | exact impl_lyndons.mono _ _ _
      | exact LeO.none _
      | refine LeO.ite ?_ ?_
      | refine LeO.bind ?_ (fun _ => ?_)
set_option maxHeartbeats 8000000 in
set_option maxRecDepth 100000 in
theorem impl_LyndonWords.calls (k : Nat) (a0 : Int) (a1 : Int) (r1 : List ByteArray) (r2 : Int) (w : World) (h : impl_LyndonWords.f k a0 a1 = some (r1, r2)) :
    Calls Try.prog 41 #[.int .i64 a0, .int .i64 a1] w fun e w' => ∃ v0_ : Value, e = .returned (.tuple #[v0_, .int .i64 r2]) ∧ Kd.R Kd.string 9 w' w.heap.size (fun _ => True) v0_ r1 ∧ Below w.heap.size w w' := by
  have HB := Aside0.mk (Below.refl w.heap.size w)
  have H : ((impl_areLetters.f a0).bind fun t152 => (if t152 = true then ((impl_within.f a1 1 8).bind fun t153 => (impl_LyndonWords.j0 k a0 a1 (!t153))) else (impl_LyndonWords.j0 k a0 a1 true))) = some (r1, r2) := h
  clear h
  have HC3 := Aside0.mk H
  clear H
  go_enter Try.func41, Try.ntmps41
  go_upto_region 1 with (fail)
  go_cut [14] (fun v14 wc => ∃ (kq : Nat) (x14_2 : Bool), v14 = .bool x14_2 ∧ Aside0 (impl_LyndonWords.j0 kq a0 a1 x14_2 = some (r1, r2)) ∧ Aside0 (kq ≤ k) ∧ Aside0 (Below w.heap.size w wc))
  case first =>
    have H := HC3.out
    clear HC3
    replace H := Option.bind_eq_some_iff.mp H
    obtain ⟨t152, A40, H⟩ := H
    replace H : (if t152 = true then ((impl_within.f a1 1 8).bind fun t153 => (impl_LyndonWords.j0 k a0 a1 (!t153))) else (impl_LyndonWords.j0 k a0 a1 true)) = some (r1, r2) := H
    have A4 := Aside0.mk A40
    clear A40
    by_cases c5 : t152 = true
    · subst c5
      have H1 : ((impl_within.f a1 1 8).bind fun t153 => (impl_LyndonWords.j0 k a0 a1 (!t153))) = some (r1, r2) := by rw [if_pos rfl] at H; exact H
      clear H
      have H := H1
      clear H1
      replace H := Option.bind_eq_some_iff.mp H
      obtain ⟨t153, A60, H⟩ := H
      replace H : (impl_LyndonWords.j0 k a0 a1 (!t153)) = some (r1, r2) := H
      have A6 := Aside0.mk A60
      clear A60
      have H' := Aside0.mk H
      clear H
      go_wp2_with (first | ((with_reducible refine gate_callee (f := 67) rfl ?_); refine goesL_ (some 8) rfl rfl Try.func67 (by kernel_rfl) rfl #[.int .i64 a0] rfl (by (try simp only [List.map_toArray, List.map_cons, List.map_nil]); first | done | rfl | (simp only [List.length_drop, List.length_take]; rfl)) ?_; (with_reducible refine (impl_areLetters.calls a0 true _ A4.out).mono ?_); rintro e w' ⟨rfl, ⟨nd, rfl⟩⟩; refine ⟨_, rfl, ?_⟩) | (go_at_call 76; (with_reducible refine (impl_within.calls a1 1 8 t153 _ A6.out).mono ?_); rintro e w' ⟨rfl, ⟨nd, rfl⟩⟩))
      go_meet
      case rel => exact ⟨_, (!t153), (by first | rfl | (simp; done) | (simp [*]; done)), H', ⟨by first | omega | exact Nat.le_refl _⟩, ⟨by repeat (first | (with_reducible first | exact HB.out | apply below_alloc | apply pw_below_drewN | apply below_drew1) | exact HB.out)⟩⟩
    · replace c5 := Bool.eq_false_iff.mpr c5
      subst c5
      have H1 : (impl_LyndonWords.j0 k a0 a1 true) = some (r1, r2) := by rw [if_neg (show ¬ (false = true) by decide)] at H; exact H
      clear H
      have H := H1
      clear H1
      have H' := Aside0.mk H
      clear H
      go_wp2_with (first | ((with_reducible refine gate_callee (f := 67) rfl ?_); refine goesL_ (some 8) rfl rfl Try.func67 (by kernel_rfl) rfl #[.int .i64 a0] rfl (by (try simp only [List.map_toArray, List.map_cons, List.map_nil]); first | done | rfl | (simp only [List.length_drop, List.length_take]; rfl)) ?_; (with_reducible refine (impl_areLetters.calls a0 false _ A4.out).mono ?_); rintro e w' ⟨rfl, ⟨nd, rfl⟩⟩; refine ⟨_, rfl, ?_⟩))
      go_meet
      case rel => exact ⟨_, (true), (by first | rfl | (simp; done) | (simp [*]; done)), H', ⟨by first | omega | exact Nat.le_refl _⟩, ⟨by repeat (first | (with_reducible first | exact HB.out | apply below_alloc | apply pw_below_drewN | apply below_drew1) | exact HB.out)⟩⟩
  case rest =>
    clear HC3
    try clear p2
    try clear c4
    try clear c5
    try clear c6
    obtain ⟨kq, x14_2, rfl, HA, HJ2, HB⟩ := hcut
    cases kq with
    | zero => exact absurd HA.out (by simp [impl_LyndonWords.j0])
    | succ kj2 =>
      have H := HA.out
      clear HA
      simp only [impl_LyndonWords.j0] at H
      by_cases c7 : x14_2 = true
      · subst c7
        have H1 : (some (([] : List ByteArray), 2)) = some (r1, r2) := by rw [if_pos rfl] at H; exact H
        clear H
        have H := H1
        clear H1
        simp only [Option.some.injEq, Prod.mk.injEq] at H
        obtain ⟨rfl, rfl⟩ := H
        go_wp2
        go_ret2
        exact ⟨_, by first | rfl | (simp [errW_none, errW_some] <;> rfl) | (simp [*, errW_none, errW_some] <;> rfl), by first | exact Kd.R_nil _ _ _ _ _ | exact Kd.N_nil _ _ _ _ _ | exact Kd.V_nil _ _ _ _ _ | exact Kd.Q_nil _ _ _ _ _ | exact Kd.S_nil _ _ _ _ _, by repeat (first | (with_reducible first | exact HB.out | apply below_alloc | apply pw_below_drewN | apply below_drew1) | exact HB.out)⟩
      · replace c7 := Bool.eq_false_iff.mpr c7
        subst c7
        have H1 : ((impl_lyndons.f kj2 a0 a1).bind fun t154 => (if (t154.length : Int) > 400 then (some (([] : List ByteArray), 3)) else (some (t154, 0)))) = some (r1, r2) := by rw [if_neg (show ¬ (false = true) by decide)] at H; exact H
        clear H
        have H := H1
        clear H1
        replace H := Option.bind_eq_some_iff.mp H
        obtain ⟨t154, A80, H⟩ := H
        replace H : (if (t154.length : Int) > 400 then (some (([] : List ByteArray), 3)) else (some (t154, 0))) = some (r1, r2) := H
        have A8 := Aside0.mk A80
        clear A80
        by_cases c9 : (t154.length : Int) > 400
        · rw [if_pos c9] at H
          have c9b0 : decide (400 < (t154.length : Int)) = true := decide_eq_true c9
          have c9b1 : decide (400 < t154.length) = true := decide_eq_true (by omega)
          clear c9
          simp only [Option.some.injEq, Prod.mk.injEq] at H
          obtain ⟨rfl, rfl⟩ := H
          go_wp2_with (first | ((with_reducible refine gate_callee (f := 82) rfl ?_); refine goesL_ (some 17) rfl rfl Try.func82 (by kernel_rfl) rfl #[.int .i64 a0, .int .i64 a1] rfl (by (try simp only [List.map_toArray, List.map_cons, List.map_nil]); first | done | rfl | (simp only [List.length_drop, List.length_take]; rfl)) ?_; (with_reducible refine (impl_lyndons.calls kj2 a0 a1 t154 _ A8.out).mono ?_); rintro e w10 ⟨v155, rfl, ho0, hb⟩; refine ⟨_, rfl, ?_⟩; have n0_ := Aside0.mk (Kd.R_lower ho0 (below_size (by repeat (first | (with_reducible first | exact HB.out | apply below_alloc | apply pw_below_drewN | apply below_drew1) | exact HB.out)))); have n1_ := Aside0.mk (below_step (by repeat (first | (with_reducible first | exact HB.out | apply below_alloc | apply pw_below_drewN | apply below_drew1) | exact HB.out)) hb); clear HB; have HO156 := n0_; have HB := n1_; clear n0_ n1_; (try clear hb); (try clear hb2); (try clear hk); (try clear hi); (try clear ho0); obtain ⟨Ao11, co11, eo11⟩ := Kd.R_slice HO156.out; subst eo11))
          go_ret2
          exact ⟨_, by first | rfl | (simp [errW_none, errW_some] <;> rfl) | (simp [*, errW_none, errW_some] <;> rfl), by first | exact Kd.R_nil _ _ _ _ _ | exact Kd.N_nil _ _ _ _ _ | exact Kd.V_nil _ _ _ _ _ | exact Kd.Q_nil _ _ _ _ _ | exact Kd.S_nil _ _ _ _ _, by repeat (first | (with_reducible first | exact HB.out | apply below_alloc | apply pw_below_drewN | apply below_drew1) | exact HB.out)⟩
        · rw [if_neg c9] at H
          have c9b0 : decide (400 < (t154.length : Int)) = false := decide_eq_false c9
          have c9b1 : decide (400 < t154.length) = false := decide_eq_false (by omega)
          clear c9
          simp only [Option.some.injEq, Prod.mk.injEq] at H
          obtain ⟨rfl, rfl⟩ := H
          go_wp2_with (first | ((with_reducible refine gate_callee (f := 82) rfl ?_); refine goesL_ (some 17) rfl rfl Try.func82 (by kernel_rfl) rfl #[.int .i64 a0, .int .i64 a1] rfl (by (try simp only [List.map_toArray, List.map_cons, List.map_nil]); first | done | rfl | (simp only [List.length_drop, List.length_take]; rfl)) ?_; (with_reducible refine (impl_lyndons.calls kj2 a0 a1 t154 _ A8.out).mono ?_); rintro e w12 ⟨v155, rfl, ho0, hb⟩; refine ⟨_, rfl, ?_⟩; have n0_ := Aside0.mk (Kd.R_lower ho0 (below_size (by repeat (first | (with_reducible first | exact HB.out | apply below_alloc | apply pw_below_drewN | apply below_drew1) | exact HB.out)))); have n1_ := Aside0.mk (below_step (by repeat (first | (with_reducible first | exact HB.out | apply below_alloc | apply pw_below_drewN | apply below_drew1) | exact HB.out)) hb); clear HB; have HO156 := n0_; have HB := n1_; clear n0_ n1_; (try clear hb); (try clear hb2); (try clear hk); (try clear hi); (try clear ho0); obtain ⟨Ao13, co13, eo13⟩ := Kd.R_slice HO156.out; subst eo13))
          go_ret2
          exact ⟨_, by first | rfl | (simp [errW_none, errW_some] <;> rfl) | (simp [*, errW_none, errW_some] <;> rfl), by (with_reducible repeat (first | apply Kd.R_alloc | apply Kd.R_drewN | apply Kd.R_drew)); exact HO156.out, by repeat (first | (with_reducible first | exact HB.out | apply below_alloc | apply pw_below_drewN | apply below_drew1) | exact HB.out)⟩

end Go.Proofs.Ytocldhojbnegjaa.PFnExactLyndonWords
