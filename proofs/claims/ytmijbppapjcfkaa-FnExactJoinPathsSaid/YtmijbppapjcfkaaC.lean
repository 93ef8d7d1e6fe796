/- slices.IndexFunc and slices.ContainsFunc at the instances of this seat: whether some element meets a function value's test. -/
import Derived.Test.YtmijbppapjcfkaaWMore
import Derived.Test.YtmijbppapjcfkaaProg
import Derived.Lib.Walk
import Derived.Shelf.Abstract
import Derived.Deep.Draws
import Derived.WalkKit
namespace Go.Proofs.YtmijbppapjcfkaaC
open Go.RowKit Go.Proofs.YtmijbppapjcfkaaW.PrintWords Go.Proofs.YtmijbppapjcfkaaW.PrintLast Go.Proofs.YtmijbppapjcfkaaW.PrintMore
set_option linter.unusedVariables false
set_option linter.unusedSimpArgs false
/-- Does p hold below n. -/
def anyN (p : Nat → Bool) (n : Nat) : Bool := (List.range n).any p
theorem anyN_hit {p : Nat → Bool} {n k : Nat} (hk : k < n) (h : p k = true) : anyN p n = true := by
  unfold anyN; rw [List.any_eq_true]; exact ⟨k, List.mem_range.2 hk, h⟩
theorem anyN_miss {p : Nat → Bool} {n : Nat} (h : ∀ j, j < n → p j = false) : anyN p n = false := by
  unfold anyN; rw [List.any_eq_false]; intro x hx; rw [h x (List.mem_range.1 hx)]; simp
/-- What a function value answers at element j, in whatever world over w; what lay, lies. -/
def Test (g : Nat) (lb : Array Value) (v : Nat → Value) (p : Nat → Bool) (n : Nat) (w : World) : Prop :=
  ∀ j, j < n → ∀ W, Below w.heap.size w W → Calls Try.prog g (#[v j] ++ lb) W fun e w' => e = .returned (.bool (p j)) ∧ Below W.heap.size W w'
def Told (p : Nat → Bool) (n : Nat) (w : World) (e : Ending) (w' : World) : Prop := ∃ r : Int, e = .returned (.int .i64 r) ∧ decide (0 ≤ r) = anyN p n ∧ Below w.heap.size w w'
set_option maxHeartbeats 2000000 in
theorem index_ints (g : Nat) (lb : Array Value) (v : Nat → Value) (p : Nat → Bool) (A : Option Addr) (n c : Nat) (w : World) (eg : ∀ args w, (callFunc g args).run Try.prog w = .ok (.enter g args) w)
    (hn : n ≤ 9223372036854775807) (hA : 0 < n → ∃ ad, A = some ad ∧ ∀ j, j < n → w.cell? (ad.add j) = some (v j)) (ht : Test g lb v p n w) :
    Calls Try.prog 133 #[.slice A n c, .func (.func g) #[] lb] w (Told p n w) := by
  have HA := Aside0.mk hA
  have HT := Aside0.mk ht
  clear hA ht
  go_enter Try.func133, Try.ntmps133
  go_wp2
  go_loopg [5, 8] n (fun gg _ s8 wr => ∃ kk : Nat, kk ≤ n ∧ n - kk ≤ gg ∧ s8 = .int .i64 kk ∧ Aside0 (Below w.heap.size w wr) ∧ Aside0 (∀ j, j < kk → p j = false))
  case atStart => exact ⟨0, Nat.zero_le _, by omega, rfl, ⟨Below.refl _ _⟩, ⟨fun j hj => absurd hj (Nat.not_lt_zero _)⟩⟩
  case round =>
    obtain ⟨kk, hkk, hg, rfl, HB, HP⟩ := hrel
    by_cases hlt : kk < n
    · have hltz : (kk : Int) < (n : Int) := by omega
      obtain ⟨ad, rfl, hc⟩ := HA.out (by omega)
      have hcell := (HB.out.cell (World.block_lt_of_cell? w _ (hc kk hlt))).trans (hc kk hlt)
      clear hc
      have hcall := HT.out kk hlt _ HB.out
      generalize hv : v kk = y at hcell hcall
      clear hv
      cases hq : p kk with
      | true =>
        rw [hq] at hcall
        have HQ := Aside0.mk hq
        clear hq
        go_wp2_with (go_at_fn g; refine hcall.mono ?_; rintro e w' ⟨rfl, hb⟩; have HB2 := Aside0.mk (below_then HB.out HB.out.size hb); clear hb)
        go_ret
        refine ⟨kk, rfl, ?_, HB2.out⟩
        rw [anyN_hit hlt HQ.out]; simp
      | false =>
        rw [hq] at hcall
        have HQ := Aside0.mk hq
        clear hq
        go_wp2_with (go_at_fn g; refine hcall.mono ?_; rintro e w' ⟨rfl, hb⟩; have HB2 := Aside0.mk (below_then HB.out HB.out.size hb); clear hb)
        go_roundg (n - (kk + 1))
        case measure => omega
        case rel =>
          refine ⟨kk + 1, by omega, by omega, by go_num, HB2, ⟨fun j hj => ?_⟩⟩
          by_cases e : j = kk
          · subst e; exact HQ.out
          · exact HP.out j (by omega)
    · have hltz : ¬ (kk : Int) < (n : Int) := by omega
      have : kk = n := by omega
      subst this
      go_wp2
      go_ret
      refine ⟨-1, rfl, ?_, HB.out⟩
      rw [anyN_miss HP.out]; simp
set_option maxHeartbeats 1000000 in
theorem contains_ints (g : Nat) (lb : Array Value) (v : Nat → Value) (p : Nat → Bool) (A : Option Addr) (n c : Nat) (w : World) (eg : ∀ args w, (callFunc g args).run Try.prog w = .ok (.enter g args) w)
    (hn : n ≤ 9223372036854775807) (hA : 0 < n → ∃ ad, A = some ad ∧ ∀ j, j < n → w.cell? (ad.add j) = some (v j)) (ht : Test g lb v p n w) :
    Calls Try.prog 117 #[.slice A n c, .func (.func g) #[] lb] w fun e w' => e = .returned (.bool (anyN p n)) ∧ Below w.heap.size w w' := by
  have hi := index_ints g lb v p A n c w eg hn hA ht
  clear hA ht
  go_enter Try.func117, Try.ntmps117
  go_wp2_with (go_at_call 133; refine hi.mono ?_; rintro e w' ⟨r, rfl, hr, hb⟩)
  go_ret
  exact ⟨by rw [← hr]; rfl, hb⟩
set_option maxHeartbeats 2000000 in
theorem index_rows (g : Nat) (lb : Array Value) (v : Nat → Value) (p : Nat → Bool) (A : Option Addr) (n c : Nat) (w : World) (eg : ∀ args w, (callFunc g args).run Try.prog w = .ok (.enter g args) w)
    (hn : n ≤ 9223372036854775807) (hA : 0 < n → ∃ ad, A = some ad ∧ ∀ j, j < n → w.cell? (ad.add j) = some (v j)) (ht : Test g lb v p n w) :
    Calls Try.prog 126 #[.slice A n c, .func (.func g) #[] lb] w (Told p n w) := by
  have HA := Aside0.mk hA
  have HT := Aside0.mk ht
  clear hA ht
  go_enter Try.func126, Try.ntmps126
  go_wp2
  go_loopg [5, 8] n (fun gg _ s8 wr => ∃ kk : Nat, kk ≤ n ∧ n - kk ≤ gg ∧ s8 = .int .i64 kk ∧ Aside0 (Below w.heap.size w wr) ∧ Aside0 (∀ j, j < kk → p j = false))
  case atStart => exact ⟨0, Nat.zero_le _, by omega, rfl, ⟨Below.refl _ _⟩, ⟨fun j hj => absurd hj (Nat.not_lt_zero _)⟩⟩
  case round =>
    obtain ⟨kk, hkk, hg, rfl, HB, HP⟩ := hrel
    by_cases hlt : kk < n
    · have hltz : (kk : Int) < (n : Int) := by omega
      obtain ⟨ad, rfl, hc⟩ := HA.out (by omega)
      have hcell := (HB.out.cell (World.block_lt_of_cell? w _ (hc kk hlt))).trans (hc kk hlt)
      clear hc
      have hcall := HT.out kk hlt _ HB.out
      generalize hv : v kk = y at hcell hcall
      clear hv
      cases hq : p kk with
      | true =>
        rw [hq] at hcall
        have HQ := Aside0.mk hq
        clear hq
        go_wp2_with (go_at_fn g; refine hcall.mono ?_; rintro e w' ⟨rfl, hb⟩; have HB2 := Aside0.mk (below_then HB.out HB.out.size hb); clear hb)
        go_ret
        refine ⟨kk, rfl, ?_, HB2.out⟩
        rw [anyN_hit hlt HQ.out]; simp
      | false =>
        rw [hq] at hcall
        have HQ := Aside0.mk hq
        clear hq
        go_wp2_with (go_at_fn g; refine hcall.mono ?_; rintro e w' ⟨rfl, hb⟩; have HB2 := Aside0.mk (below_then HB.out HB.out.size hb); clear hb)
        go_roundg (n - (kk + 1))
        case measure => omega
        case rel =>
          refine ⟨kk + 1, by omega, by omega, by go_num, HB2, ⟨fun j hj => ?_⟩⟩
          by_cases e : j = kk
          · subst e; exact HQ.out
          · exact HP.out j (by omega)
    · have hltz : ¬ (kk : Int) < (n : Int) := by omega
      have : kk = n := by omega
      subst this
      go_wp2
      go_ret
      refine ⟨-1, rfl, ?_, HB.out⟩
      rw [anyN_miss HP.out]; simp
set_option maxHeartbeats 1000000 in
theorem contains_rows (g : Nat) (lb : Array Value) (v : Nat → Value) (p : Nat → Bool) (A : Option Addr) (n c : Nat) (w : World) (eg : ∀ args w, (callFunc g args).run Try.prog w = .ok (.enter g args) w)
    (hn : n ≤ 9223372036854775807) (hA : 0 < n → ∃ ad, A = some ad ∧ ∀ j, j < n → w.cell? (ad.add j) = some (v j)) (ht : Test g lb v p n w) :
    Calls Try.prog 103 #[.slice A n c, .func (.func g) #[] lb] w fun e w' => e = .returned (.bool (anyN p n)) ∧ Below w.heap.size w w' := by
  have hi := index_rows g lb v p A n c w eg hn hA ht
  clear hA ht
  go_enter Try.func103, Try.ntmps103
  go_wp2_with (go_at_call 126; refine hi.mono ?_; rintro e w' ⟨r, rfl, hr, hb⟩)
  go_ret
  exact ⟨by rw [← hr]; rfl, hb⟩
/-- impl.upTo. -/
theorem upTo_any (x m : Int) (w : World) : Calls Try.prog 119 #[.int .i64 x, .int .i64 m] w fun e w' => e = .returned (.bool (decide (wrap64 (-m) ≤ x) && decide (x ≤ m))) ∧ ∃ q, w' = w.drewN q := by
  have hw : ∀ (a b c : Int) (W : World), Calls Try.prog 80 #[.int .i64 a, .int .i64 b, .int .i64 c] W fun e w' => e = .returned (.bool (decide (b ≤ a) && decide (a ≤ c))) ∧ w' = W := by
    intro a b c W
    by_cases h : b ≤ a
    · have h1 : decide (b ≤ a) = true := decide_eq_true h
      clear h
      go_enter Try.func80, Try.ntmps80
      go_wp2
      go_ret
      exact ⟨by rw [h1]; simp, rfl⟩
    · have h1 : decide (b ≤ a) = false := decide_eq_false h
      clear h
      go_enter Try.func80, Try.ntmps80
      go_wp2
      go_ret
      exact ⟨by rw [h1]; simp, rfl⟩
  go_enter Try.func119, Try.ntmps119
  go_wp2_with (go_at_call 80; refine (hw _ _ _ _).mono ?_; rintro e w' ⟨rfl, rfl⟩)
  go_ret
  exact ⟨rfl, 0, rfl⟩
/-- The function value in impl.allUpTo. -/
theorem upTo_test (m : Int) (B : Nat) (W : World) (hc : W.cell? ⟨B, 0, none⟩ = some (.int .i64 m)) (xs : List Int) (n : Nat) : Test 118 #[.pointer (some ⟨B, 0, none⟩)] (fun j => .int .i64 (xs.getD j 0)) (fun j => !(decide (wrap64 (-m) ≤ xs.getD j 0) && decide (xs.getD j 0 ≤ m))) n W := by
  intro j _ Wx hWx
  have hc' : Wx.cell? ⟨B, 0, none⟩ = some (.int .i64 m) := (hWx.cell (World.block_lt_of_cell? W _ hc)).trans hc
  clear hWx hc
  suffices h : ∀ x : Int, Calls Try.prog 118 #[.int .i64 x, .pointer (some ⟨B, 0, none⟩)] Wx fun e w' => e = .returned (.bool (!(decide (wrap64 (-m) ≤ x) && decide (x ≤ m)))) ∧ Below Wx.heap.size Wx w' from h _
  intro x
  go_enter Try.func118, Try.ntmps118
  go_wp2_with (go_at_call 119; refine (upTo_any _ _ _).mono ?_; rintro e w' ⟨rfl, q', rfl⟩)
  go_ret
  exact ⟨by simp, pw_below_drewN (Below.refl _ _) _⟩
def allUpTo (l : List Int) (m : Int) : Bool := l.all fun x => decide (wrap64 (-m) ≤ x) && decide (x ≤ m)
theorem anyN_all (l : List Int) (p : Int → Bool) : (!anyN (fun j => !p (l.getD j 0)) l.length) = l.all p := by
  cases h : l.all p with
  | true =>
    rw [List.all_eq_true] at h
    rw [anyN_miss (fun j hj => ?_)]; rfl
    rw [List.getD_eq_getElem?_getD, List.getElem?_eq_getElem hj]
    simp only [Option.getD_some]
    rw [h _ (List.getElem_mem hj)]; rfl
  | false =>
    rw [List.all_eq_false] at h
    obtain ⟨x, hx, hp⟩ := h
    obtain ⟨j, hj, rfl⟩ := List.mem_iff_getElem.1 hx
    rw [anyN_hit hj (by rw [List.getD_eq_getElem?_getD, List.getElem?_eq_getElem hj]; simpa using hp)]; rfl
set_option maxHeartbeats 1000000 in
/-- impl.allUpTo. -/
theorem allUpTo_any (A0 : Option Addr) (c0 : Nat) (l0 : List Int) (m : Int) (w : World) (hr0 : Kd.C (Kd.int .i64) w A0 l0.length l0) :
    Calls Try.prog 96 #[.slice A0 l0.length c0, .int .i64 m] w fun e w' => e = .returned (.bool (allUpTo l0 m)) ∧ Below w.heap.size w w' := by
  have hR := Kd.reads_of_C (d := (0 : Int)) (h1 := fun _ => rfl) (enc := Value.int .i64) hr0
  have eg : ∀ args w, (callFunc 118 args).run Try.prog w = .ok (.enter 118 args) w := enters_of Try.func118 (by kernel_rfl) rfl
  have hcon := contains_ints 118 #[.pointer (some ⟨w.heap.size, 0, none⟩)] (fun j => .int .i64 (l0.getD j 0)) (fun j => !(decide (wrap64 (-m) ≤ l0.getD j 0) && decide (l0.getD j 0 ≤ m))) A0 l0.length c0 (w.alloc (.cells #[.int .i64 m] 2)) eg hR.2.1
    (fun hp => by
      obtain ⟨ad, e, hc⟩ := hR.2.2 hp
      exact ⟨ad, e, fun j hj => (World.cell?_alloc_lt _ _ _ (World.block_lt_of_cell? _ _ (hc j hj))).trans (hc j hj)⟩)
    (upTo_test m w.heap.size _ (by simp) l0 l0.length)
  have hz : (!anyN (fun j => !(decide (wrap64 (-m) ≤ l0.getD j 0) && decide (l0.getD j 0 ≤ m))) l0.length) = allUpTo l0 m := anyN_all l0 (fun x => decide (wrap64 (-m) ≤ x) && decide (x ≤ m))
  have HZ := Aside0.mk hz
  clear hz hR hr0
  generalize anyN (fun j => !(decide (wrap64 (-m) ≤ l0.getD j 0) && decide (l0.getD j 0 ≤ m))) l0.length = b at hcon HZ
  go_enter Try.func96, Try.ntmps96
  go_wp2_with (go_at_call 117; refine hcon.mono ?_; rintro e w' ⟨rfl, hb⟩; have HB := Aside0.mk hb; clear hb)
  go_ret
  exact ⟨by rw [← HZ.out]; rfl, below_then (below_alloc (Below.refl _ _) _) (by simp) HB.out⟩
/-- Are these numbers of letters? -/
def letters (d : Int) : Bool := decide (1 ≤ d) && decide (d ≤ 3)
theorem letters_any (d : Int) (w : World) : Calls Try.prog 53 #[.int .i64 d] w fun e w' => e = .returned (.bool (letters d)) ∧ w' = w := by
  have hw : ∀ (a b c : Int) (W : World), Calls Try.prog 80 #[.int .i64 a, .int .i64 b, .int .i64 c] W fun e w' => e = .returned (.bool (decide (b ≤ a) && decide (a ≤ c))) ∧ w' = W := by
    intro a b c W
    by_cases h : b ≤ a
    · have h1 : decide (b ≤ a) = true := decide_eq_true h
      clear h
      go_enter Try.func80, Try.ntmps80
      go_wp2
      go_ret
      exact ⟨by rw [h1]; simp, rfl⟩
    · have h1 : decide (b ≤ a) = false := decide_eq_false h
      clear h
      go_enter Try.func80, Try.ntmps80
      go_wp2
      go_ret
      exact ⟨by rw [h1]; simp, rfl⟩
  go_enter Try.func53, Try.ntmps53
  go_wp2_with (go_at_call 80; refine (hw _ _ _ _).mono ?_; rintro e w' ⟨rfl, rfl⟩)
  go_ret
  exact ⟨rfl, rfl⟩
/-- A row of rows that came in: the cell at j. -/
theorem row_at {w : World} {A : Option Addr} {n : Nat} {xs : List (List Int)} (h : Kd.C (Kd.slice 2 (Kd.int .i64)) w A n xs) (j : Nat) (h1 : j < n) : ∃ ad A0 c0, A = some ad ∧ w.cell? (ad.add j) = some (.slice A0 (xs.getD j []).length c0) ∧ (xs.getD j []).length ≤ c0 ∧ (Kd.int .i64).C w A0 (xs.getD j []).length (xs.getD j []) := by
  obtain ⟨ad, c, e, _, hK, hc0⟩ := Kd.C_get h ([] : List Int) (j : Int) (by omega) (by omega)
  have hc : ∀ i u, c[i]? = some u → w.cell? (ad.add ((j : Int).toNat * 1 + i)) = some u := hc0
  obtain ⟨A0, c0, rfl, l0, g0⟩ := hK
  exact ⟨ad, A0, c0, e, by have hq := hc 0 _ rfl; rwa [Nat.mul_one, Nat.add_zero, Int.toNat_natCast] at hq, l0, g0⟩
def cellOf (w : World) (A : Option Addr) (j : Nat) : Value := match A with | some ad => (w.cell? (ad.add j)).getD undef | none => undef
def rowOk (e m : Int) (row : List Int) : Bool := decide ((row.length : Int) = e) && allUpTo row m
/-- The function value in impl.IsMap, impl.IsPath. -/
theorem row_test (g : Nat) (m : Int) (e : Int) (B : Nat) (w W : World) (hc : W.cell? ⟨B, 0, none⟩ = some (.int .i64 e)) (A : Option Addr) (n : Nat) (xs : List (List Int)) (hb : Below w.heap.size w W)
    (h : Kd.C (Kd.slice 2 (Kd.int .i64)) w A n xs)
    (hg : ∀ (A0 : Option Addr) (c0 : Nat) (row : List Int) (V : World), V.cell? ⟨B, 0, none⟩ = some (.int .i64 e) → Kd.C (Kd.int .i64) V A0 row.length row → Calls Try.prog g #[.slice A0 row.length c0, .pointer (some ⟨B, 0, none⟩)] V fun e' w' => e' = .returned (.bool (!rowOk e m row)) ∧ Below V.heap.size V w') :
    Test g #[.pointer (some ⟨B, 0, none⟩)] (cellOf w A) (fun j => !rowOk e m (xs.getD j [])) n W := by
  intro j hj V hV
  obtain ⟨ad, A0, c0, rfl, hx, _, hK⟩ := row_at h j hj
  have hv : cellOf w (some ad) j = .slice A0 (xs.getD j []).length c0 := by simp [cellOf, hx]
  rw [hv]
  exact hg A0 c0 _ V ((hV.cell (World.block_lt_of_cell? W _ hc)).trans hc) (Kd.C_below (Kd.C_below hK hb) hV)
def isMap (d e : Int) (l : List (List Int)) : Bool := letters d && letters e && decide ((l.length : Int) = d) && l.all (rowOk e 100)
theorem any_rows (l : List (List Int)) (p : List Int → Bool) : (!anyN (fun j => !p (l.getD j [])) l.length) = l.all p := by
  cases h : l.all p with
  | true =>
    rw [List.all_eq_true] at h
    rw [anyN_miss (fun j hj => ?_)]; rfl
    rw [List.getD_eq_getElem?_getD, List.getElem?_eq_getElem hj]
    simp only [Option.getD_some]
    rw [h _ (List.getElem_mem hj)]; rfl
  | false =>
    rw [List.all_eq_false] at h
    obtain ⟨x, hx, hp⟩ := h
    obtain ⟨j, hj, rfl⟩ := List.mem_iff_getElem.1 hx
    rw [anyN_hit hj (by rw [List.getD_eq_getElem?_getD, List.getElem?_eq_getElem hj]; simpa using hp)]; rfl
end Go.Proofs.YtmijbppapjcfkaaC
