/- slices.Concat of two paths (and slices.Grow of no row): rows of raw slice values. -/
import Derived.Test.YtmijbppapjcfkaaCM
import Derived.Lib.AppendZerosOnto
import Derived.Shelf.RegionOpenPlain
import Derived.Lib.SliceRun
namespace Go.Proofs.YtmijbppapjcfkaaC
open Go.RowKit Go.Proofs.YtmijbppapjcfkaaW.PrintWords Go.Proofs.YtmijbppapjcfkaaW.PrintLast Go.Proofs.YtmijbppapjcfkaaW.PrintMore
set_option linter.unusedVariables false
set_option linter.unusedSimpArgs false
abbrev Raw := Option Addr × Nat × Nat
def rawE (x : Raw) : Value := .slice x.1 x.2.1 x.2.2
def kRaw : Kd Raw := Kd.scalar rawE (fun _ => rfl)
/-- What the raw values of a row of rows are. -/
def Mt (w : World) (vs : List Raw) (l : List (List Int)) : Prop :=
  vs.length = l.length ∧ ∀ (j : Nat) (p : List Int), l[j]? = some p → ∃ a c, vs[j]? = some (a, p.length, c) ∧ p.length ≤ c ∧ (Kd.int .i64).C w a p.length p
theorem Mt_below {w w1 : World} {vs l} (h : Mt w vs l) (hb : Below w.heap.size w w1) : Mt w1 vs l :=
  ⟨h.1, fun j p hj => by obtain ⟨a, c, h1, h2, h3⟩ := h.2 j p hj; exact ⟨a, c, h1, h2, Kd.C_below h3 hb⟩⟩
theorem Mt_append {w : World} {vs us l m} (h : Mt w vs l) (h' : Mt w us m) : Mt w (vs ++ us) (l ++ m) := by
  refine ⟨by rw [List.length_append, List.length_append, h.1, h'.1], fun j p hj => ?_⟩
  by_cases hlt : j < l.length
  · rw [List.getElem?_append_left hlt] at hj
    obtain ⟨a, c, h1, h2⟩ := h.2 j p hj
    exact ⟨a, c, by rw [List.getElem?_append_left (by rw [h.1]; exact hlt)]; exact h1, h2⟩
  · rw [List.getElem?_append_right (by omega)] at hj
    obtain ⟨a, c, h1, h2⟩ := h'.2 _ p hj
    exact ⟨a, c, by rw [List.getElem?_append_right (by rw [h.1]; omega), h.1]; exact h1, h2⟩
theorem raw_of {w : World} {A : Option Addr} {l : List (List Int)} (h : Kd.C (Kd.slice 2 (Kd.int .i64)) w A l.length l) : ∃ vs, kRaw.C w A vs.length vs ∧ Mt w vs l := by
  obtain ⟨_, hm, hc⟩ := h
  by_cases h0 : 0 < l.length
  · obtain ⟨ad, rfl, hq⟩ := hc h0
    have hx : ∀ j : Nat, ∃ x : Raw, ∀ p, l[j]? = some p → ∃ a c, x = (a, p.length, c) ∧ p.length ≤ c ∧ (Kd.int .i64).C w a p.length p ∧ w.cell? (ad.add j) = some (rawE x) := by
      intro j
      cases hj : l[j]? with
      | none => exact ⟨(none, 0, 0), fun p hp => by cases hp⟩
      | some p =>
        obtain ⟨cs, _, ⟨a, c, rfl, hl, hC⟩, hcell⟩ := hq j p hj
        refine ⟨(a, p.length, c), fun q hq => ?_⟩
        obtain rfl : p = q := by simpa using hq
        exact ⟨a, c, rfl, hl, hC, by have := hcell 0 _ rfl; simpa [Kd.slice, rawE] using this⟩
    obtain ⟨f, hf⟩ := Classical.axiomOfChoice hx
    refine ⟨(List.range l.length).map f, ⟨rfl, by simpa using hm, fun _ => ⟨ad, rfl, fun j x hj => ?_⟩⟩, by simp, fun j p hj => ?_⟩
    · have hlt : j < l.length := by
        have := (List.getElem?_eq_some_iff.1 hj).1
        simpa using this
      rw [List.getElem?_map, List.getElem?_range hlt] at hj
      obtain rfl : f j = x := by simpa using hj
      obtain ⟨a, c, _, _, _, h4⟩ := hf j _ (List.getElem?_eq_getElem hlt)
      refine ⟨[rawE (f j)], rfl, rfl, fun i u hu => ?_⟩
      cases i with
      | succ i => simp at hu
      | zero =>
        obtain rfl : rawE (f j) = u := by simpa using hu
        simpa [kRaw, Kd.scalar] using h4
    · have hlt : j < l.length := (List.getElem?_eq_some_iff.1 hj).1
      obtain ⟨a, c, h1, h2, h3, _⟩ := hf j _ hj
      exact ⟨a, c, by rw [List.getElem?_map, List.getElem?_range hlt, ← h1]; rfl, h2, h3⟩
  · obtain rfl : l = [] := List.eq_nil_of_length_eq_zero (by omega)
    exact ⟨[], ⟨rfl, by simp, fun h => absurd h (by simp)⟩, rfl, fun j p hj => by simp at hj⟩
theorem of_raw {w : World} {A : Option Addr} {vs : List Raw} {l : List (List Int)} (h : kRaw.C w A vs.length vs) (hm : Mt w vs l) : Kd.C (Kd.slice 2 (Kd.int .i64)) w A l.length l := by
  obtain ⟨_, hle, hc⟩ := h
  refine ⟨rfl, by rw [← hm.1]; exact hle, fun h0 => ?_⟩
  obtain ⟨ad, rfl, hq⟩ := hc (by rw [hm.1]; exact h0)
  refine ⟨ad, rfl, fun j p hj => ?_⟩
  obtain ⟨a, c, h1, h2, h3⟩ := hm.2 j p hj
  obtain ⟨cs, _, hcs, hcell⟩ := hq j _ h1
  refine ⟨cs, by rw [hcs]; rfl, ⟨a, c, hcs, h2, h3⟩, hcell⟩

theorem alloc_at (w : World) (o : Obj) : (w.alloc o).heap[w.heap.size]? = some o := by show (w.heap.push o)[w.heap.size]? = some o; simp
set_option maxHeartbeats 4000000 in
set_option maxRecDepth 100000 in
theorem grow_any (n : Nat) (w : World) (hn : n ≤ 100) :
    Calls Try.prog 105 #[.slice none 0 0, .int .i64 n] w fun e w' => ∃ v, e = .returned v ∧ Kd.R kRaw 67 w' w.heap.size (fun _ => True) v [] ∧ Below w.heap.size w w' := by
  have h1 : ¬ ((n : Int) < 0) := by omega
  have h2 : wrap64 ((n : Int) - 0) = (n : Int) := by unfold wrap64; omega
  by_cases h0 : 0 < n
  · have h4 : (n : Int) > 0 := by omega
    obtain ⟨i0, hi, hzz⟩ := Option.map_eq_some_iff.1 infoRow
    simp only [Prod.mk.injEq] at hzz
    obtain ⟨hz0, hz1, hz2⟩ := hzz
    have hrz : ∀ ty, (Builtin.append_ #[25, 3] ty #[.slice none 0 0, .int .i64 (n : Int)]).run Try.prog w =
        .ok (.slice (some ⟨w.heap.size, 0, none⟩) n (grownCap w n 0 67)) (w.drew.alloc (.cells (Builtin.zeroCells (Value.cells (.slice none 0 0)) n ++ Builtin.zeroCells (Value.cells (.slice none 0 0)) (grownCap w n 0 67 - n)) 67)) := fun ty =>
      Lib.run_append_nil_zeros w _ _ ty _ i0 _ .i64 .i64 Try.underlying25 Try.underlying3 hi hz0 n h0 (by omega) (by omega) (by rw [hz2]; omega)
    have hGn : n ≤ grownCap w n 0 67 := grownCap_ge w _ _ _
    have hGm := grownCap_le_maxLen w n 0 67 (by unfold maxLen; omega)
    obtain ⟨G, hG⟩ : ∃ G, G = grownCap w n 0 67 := ⟨_, rfl⟩
    rw [← hG] at hrz hGn hGm
    have hG63 : G ≤ 9223372036854775807 := by unfold maxLen at hGm; omega
    have HM := Aside0.mk hGm
    clear hGm hz0 hz1 hz2 hi hG
    go_enter Try.func105, Try.ntmps105
    go_wp2_with (at_builtin; refine Lib.wpList_append_run _ rfl _ _ _ _ rfl _ _ rfl rfl _ _ (hrz _) ?_)
    all_goals (go_ret; refine ⟨_, rfl, Kd.R_of_own (xs := []) ⟨rfl, .inr ⟨_, G, _, rfl, Nat.le_refl _, alloc_at _ _, Nat.zero_le _, HM.out, ?_, rfl⟩⟩ (fun _ _ => trivial), below_alloc (below_drew (Below.refl _ _)) _⟩; rw [Array.size_append, size_zeroCells, size_zeroCells]; show n * 1 + (G - n) * 1 = G * 1; omega)
  · obtain rfl : n = 0 := by omega
    go_enter Try.func105, Try.ntmps105
    go_wp2
    go_ret
    exact ⟨_, rfl, Kd.R_nil _ _ _ _ _, Below.refl _ _⟩

set_option maxHeartbeats 8000000 in
set_option maxRecDepth 100000 in
theorem concat_raw (B : Nat) (A1 A2 : Option Addr) (c1 c2 : Nat) (u1 u2 : List Raw) (w : World) (h1 : w.cell? ⟨B, 0, none⟩ = some (.slice A1 u1.length c1)) (h2 : w.cell? ⟨B, 1, none⟩ = some (.slice A2 u2.length c2))
    (hr1 : kRaw.C w A1 u1.length u1) (hr2 : kRaw.C w A2 u2.length u2) (hl1 : u1.length ≤ 12) (hl2 : u2.length ≤ 12) :
    Calls Try.prog 67 #[.slice (some ⟨B, 0, none⟩) 2 2] w fun e w' => ∃ v, e = .returned v ∧ Kd.R kRaw 67 w' w.heap.size (fun _ => True) v (u1 ++ u2) ∧ Below w.heap.size w w' := by
  have HR1 := Aside0.mk hr1
  have HR2 := Aside0.mk hr2
  have LU1 := Aside0.mk hl1
  have LU2 := Aside0.mk hl2
  have H1 := Aside0.mk h1
  have H2 := Aside0.mk h2
  obtain ⟨n, hn⟩ : ∃ n, n = u1.length + u2.length := ⟨_, rfl⟩
  have HN := Aside0.mk hn
  have e0 : wrap64 (u1.length : Int) = (u1.length : Int) := by unfold wrap64; omega
  have e1 : wrap64 ((u1.length : Int) + (u2.length : Int)) = (n : Int) := by unfold wrap64; omega
  have g0 : ¬ ((u1.length : Int) < 0) := by omega
  have g1 : ¬ ((n : Int) < 0) := by omega
  clear hr1 hr2 hl1 hl2 hn
  go_enter Try.func67, Try.ntmps67
  go_wp2
  go_loopg [3, 11] 2 (fun gg v3 v11 wr => w = wr ∧ ((v3 = .int .i64 0 ∧ v11 = .int .i64 0 ∧ 2 ≤ gg) ∨ (v3 = .int .i64 u1.length ∧ v11 = .int .i64 1 ∧ 1 ≤ gg) ∨ (v3 = .int .i64 n ∧ v11 = .int .i64 2)))
  case atStart => exact ⟨rfl, .inl ⟨rfl, rfl, by omega⟩⟩
  case round =>
    obtain ⟨rfl, ⟨rfl, rfl, hg⟩ | ⟨rfl, rfl, hg⟩ | ⟨rfl, rfl⟩⟩ := hrel
    · go_wp2
      go_roundg 1
      case measure => omega
      case rel => exact ⟨rfl, .inr (.inl ⟨by simp [*], rfl, by omega⟩)⟩
    · go_wp2
      go_roundg 0
      case measure => omega
      case rel => exact ⟨rfl, .inr (.inr ⟨by simp [*], rfl⟩)⟩
    · go_wp2_with (go_at_call 105; refine (grow_any n _ (by have := HN.out; have := LU1.out; have := LU2.out; omega)).mono ?_; rintro e w1 ⟨v1, rfl, ho, hb⟩; have HO := Aside0.mk ho; have HB := Aside0.mk hb; clear ho hb)
      go_loopg [6, 27] 2 (fun gg v6 v27 wr => Aside0 (Below w.heap.size w wr) ∧ ((Aside0 (Kd.R kRaw 67 wr w.heap.size (fun _ => True) v6 []) ∧ v27 = .int .i64 0 ∧ 2 ≤ gg) ∨ (Aside0 (Kd.R kRaw 67 wr w.heap.size (fun _ => True) v6 u1) ∧ v27 = .int .i64 1 ∧ 1 ≤ gg) ∨ (Aside0 (Kd.R kRaw 67 wr w.heap.size (fun _ => True) v6 (u1 ++ u2)) ∧ v27 = .int .i64 2)))
      case atStart => exact ⟨HB, .inl ⟨HO, rfl, by omega⟩⟩
      case round =>
        clear HB HO
        obtain ⟨HB, ⟨HO, rfl, hg⟩ | ⟨HO, rfl, hg⟩ | ⟨HO, rfl⟩⟩ := hrel
        · have hcell := (HB.out.cell (World.block_lt_of_cell? w _ H1.out)).trans H1.out
          go_wp2_with ((with_reducible refine gate_builtin (b := .append) (xs := #[.tmp 31, .tmp 32]) rfl ?_); at_builtin; refine Kd.R_append_rows kRaw (w0 := w) w.heap.size rfl (.tmp 31) (.tmp 32) 25 67 (.slice none 0 0) 24 rfl Try.underlying25 infoRow rfl (by decide) (by omega) u6 [] u1 _ _ _ (fun _ => True) (fun _ => False) rfl rfl ?aO ?aR (fun _ _ h => h) (fun _ h => h.elim) ?aF ?aB ?aS ?aL ?_; (case aR => repeat (first | exact (Kd.C_below HR1.out HB.out) | (with_reducible refine Kd.C_alloc ?_ _) | (with_reducible refine Kd.C_drewN ?_ _) | (with_reducible refine Kd.C_drew ?_))); (case aB => exact (by repeat (first | (with_reducible first | exact HB.out | apply below_alloc | apply pw_below_drewN | apply below_drew1) | exact HB.out))); (case aF => exact (fun _ _ => trivial)); (case aO => exact (by (with_reducible repeat (first | apply Kd.R_alloc | apply Kd.R_drewN | apply Kd.R_drew)); exact HO.out)); (case aS => exact (below_size (by repeat (first | (with_reducible first | exact HB.out | apply below_alloc | apply pw_below_drewN | apply below_drew1) | exact HB.out)))); (case aL => have := LU1.out; have := LU2.out; first | omega | (simp only [List.length_nil]; omega)); intro v146 w12 ho hb hg hat; have HO2 := Aside0.mk ho; have HB2 := Aside0.mk hb; clear ho hb hg hat)
          go_roundg 1
          case measure => omega
          case rel => exact ⟨HB2, .inr (.inl ⟨HO2, rfl, by omega⟩)⟩
        · have hcell := (HB.out.cell (World.block_lt_of_cell? w _ H2.out)).trans H2.out
          go_wp2_with ((with_reducible refine gate_builtin (b := .append) (xs := #[.tmp 31, .tmp 32]) rfl ?_); at_builtin; refine Kd.R_append_rows kRaw (w0 := w) w.heap.size rfl (.tmp 31) (.tmp 32) 25 67 (.slice none 0 0) 24 rfl Try.underlying25 infoRow rfl (by decide) (by omega) u6 u1 u2 _ _ _ (fun _ => True) (fun _ => False) rfl rfl ?aO ?aR (fun _ _ h => h) (fun _ h => h.elim) ?aF ?aB ?aS ?aL ?_; (case aR => repeat (first | exact (Kd.C_below HR2.out HB.out) | (with_reducible refine Kd.C_alloc ?_ _) | (with_reducible refine Kd.C_drewN ?_ _) | (with_reducible refine Kd.C_drew ?_))); (case aB => exact (by repeat (first | (with_reducible first | exact HB.out | apply below_alloc | apply pw_below_drewN | apply below_drew1) | exact HB.out))); (case aF => exact (fun _ _ => trivial)); (case aO => exact (by (with_reducible repeat (first | apply Kd.R_alloc | apply Kd.R_drewN | apply Kd.R_drew)); exact HO.out)); (case aS => exact (below_size (by repeat (first | (with_reducible first | exact HB.out | apply below_alloc | apply pw_below_drewN | apply below_drew1) | exact HB.out)))); (case aL => have := LU1.out; have := LU2.out; first | omega | (simp only [List.length_nil]; omega)); intro v146 w12 ho hb hg hat; have HO2 := Aside0.mk ho; have HB2 := Aside0.mk hb; clear ho hb hg hat)
          go_roundg 0
          case measure => omega
          case rel => exact ⟨HB2, .inr (.inr ⟨HO2, rfl⟩)⟩
        · go_wp2
          go_ret
          exact ⟨_, rfl, HO.out, HB.out⟩
theorem concat_any (B : Nat) (A1 A2 : Option Addr) (c1 c2 : Nat) (l1 l2 q : List (List Int)) (w : World) (h1 : w.cell? ⟨B, 0, none⟩ = some (.slice A1 l1.length c1)) (h2 : w.cell? ⟨B, 1, none⟩ = some (.slice A2 l2.length c2))
    (hr1 : Kd.C (Kd.slice 2 (Kd.int .i64)) w A1 l1.length l1) (hr2 : Kd.C (Kd.slice 2 (Kd.int .i64)) w A2 l2.length l2) (hl1 : l1.length ≤ 12) (hl2 : l2.length ≤ 12) (hq : q = l1 ++ l2) :
    Calls Try.prog 67 #[.slice (some ⟨B, 0, none⟩) 2 2] w fun e w' => ∃ A c, e = .returned (.slice A q.length c) ∧ Kd.C (Kd.slice 2 (Kd.int .i64)) w' A q.length q ∧ Below w.heap.size w w' := by
  subst hq
  obtain ⟨u1, k1, m1⟩ := raw_of hr1
  obtain ⟨u2, k2, m2⟩ := raw_of hr2
  refine (concat_raw B A1 A2 c1 c2 u1 u2 w (by rw [m1.1]; exact h1) (by rw [m2.1]; exact h2) k1 k2 (by rw [m1.1]; exact hl1) (by rw [m2.1]; exact hl2)).mono ?_
  rintro e w' ⟨v, rfl, ho, hb⟩
  obtain ⟨A, c, rfl, _, hC⟩ := Kd.R_reads ho
  have m := Mt_append (Mt_below m1 hb) (Mt_below m2 hb)
  exact ⟨A, c, by rw [m.1], of_raw hC m, hb⟩
end Go.Proofs.YtmijbppapjcfkaaC
