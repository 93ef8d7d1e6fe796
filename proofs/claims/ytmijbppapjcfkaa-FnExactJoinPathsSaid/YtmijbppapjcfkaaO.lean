/- What an argument of a law is, out of how it reads: slices of slices, structs, as the kinds of the printed walks tell them. -/
import Derived.Test.YtmijbppapjcfkaaWMore
import Derived.Deep.Slices
import Derived.ChangeArms
import Derived.WideShapes
import Derived.SizedLaws
import Derived.Lib.SmallJoins
namespace Go.Proofs.YtmijbppapjcfkaaO
open Go.ChangeShapes Go.WideShapes Go.RowKit Go.Proofs.YtmijbppapjcfkaaW.PrintWords
set_option linter.unusedVariables false
/-- Whatever reads at type t is a value of the kind d that is ok. -/
def Opens (P : Program) (t : TypeId) {α : Type} (d : Kd α) (ok : α → Prop) : Prop :=
  P.cellsOf t = d.sz ∧ ∀ (H : Type) (enc : TypeId × Value → H) (w : World) (fuel : Nat) (cs : List Value) (x : DataW H × List MemPlace), DataW.trod enc P w 0 (fun _ => true) true fuel t cs = some x → ∃ a, d.K w a cs ∧ ok a
section
variable {P : Program} {t e : TypeId} {α β : Type}
theorem opens_int {k : IntKind} (ht : P.underlying t = some (.int k)) (hc : P.cellsOf t = 1) : Opens P t (Kd.int k) (fun a => (Lit.int k a).wf = true) := by
  refine ⟨hc, fun H enc w fuel cs x h => ?_⟩
  obtain ⟨n, rfl, _, hw⟩ := DataW.trod_int ht h
  exact ⟨n, rfl, hw⟩
theorem opens_string (ht : P.underlying t = some .string) (hc : P.cellsOf t = 1) : Opens P t Kd.string (fun a => a.size ≤ 9223372036854775807) := by
  refine ⟨hc, fun H enc w fuel cs x h => ?_⟩
  obtain ⟨s, rfl, _, hs⟩ := DataW.trod_string ht h
  exact ⟨s, rfl, by simpa [maxLen] using hs⟩
theorem cells_get {w : World} {a : Addr} {n : Nat} {cs : List Value} (h : w.cells? 0 a n = some cs) : cs.length = n ∧ ∀ i u, cs[i]? = some u → w.cell? (a.add i) = some u := by
  unfold World.cells? at h
  rw [if_pos (Nat.zero_le _)] at h
  have hl := mapM_some_length h
  rw [List.length_range] at hl
  refine ⟨hl, fun i u hu => ?_⟩
  have hi : i < n := by rw [← hl]; exact (List.getElem?_eq_some_iff.1 hu).1
  have := mapM_some_get h i i (by simp [hi])
  rw [this]; exact hu
theorem opens_slice {d : Kd α} {ok : α → Prop} (ht : P.underlying t = some (.slice e)) (hc : P.cellsOf t = 1) (ho : Opens P e d ok) : Opens P t (Kd.slice e d) (fun l => l.length ≤ 9223372036854775807 ∧ ∀ a ∈ l, ok a) := by
  obtain ⟨hz, ho⟩ := ho
  refine ⟨hc, fun H enc w fuel cs x h => ?_⟩
  rcases Go.Deep.open_slice ht h with ⟨rfl, _⟩ | ⟨a, len, cap, m, n, D, Pl, rfl, _, hl, hm, hmm, _, hx⟩
  · exact ⟨[], ⟨none, 0, rfl, Nat.le_refl _, rfl, by simp, fun h => absurd h (by simp)⟩, by simp, by simp⟩
  · simp only [if_true] at hmm
    subst hmm
    have hm' : m ≤ 9223372036854775807 := by simpa [maxLen] using hm
    have key : ∀ q, q ≤ len → ∃ l : List α, l.length = q ∧ (∀ p ∈ l, ok p) ∧ ∀ j p, l[j]? = some p → ∃ c, c.length = d.sz ∧ d.K w p c ∧ ∀ i u, c[i]? = some u → w.cell? (a.add (j * d.sz + i)) = some u := by
      intro q
      induction q with
      | zero => exact fun _ => ⟨[], rfl, by simp, fun j p hp => by simp at hp⟩
      | succ q ih =>
        intro hq
        obtain ⟨l, h1, h2, h3⟩ := ih (by omega)
        obtain ⟨cs', hcs, htr⟩ := hx q (by omega)
        obtain ⟨p, hK, hok⟩ := ho H enc w _ _ _ htr
        rw [hz] at hcs
        obtain ⟨hlen, hget⟩ := cells_get hcs
        refine ⟨l ++ [p], by simp [h1], ?_, fun j p' hp' => ?_⟩
        · intro p' hp'
          rcases List.mem_append.1 hp' with hp' | hp'
          · exact h2 _ hp'
          · rw [List.mem_singleton.1 hp']; exact hok
        · by_cases hj : j < l.length
          · rw [List.getElem?_append_left hj] at hp'
            exact h3 j p' hp'
          · rw [List.getElem?_append_right (by omega)] at hp'
            have hj' : j = q := by
              have := (List.getElem?_eq_some_iff.1 hp').1
              simp at this; omega
            subst hj'
            rw [h1, Nat.sub_self] at hp'
            obtain rfl : p = p' := by simpa using hp'
            exact ⟨cs', hlen, hK, fun i u hu => by rw [← Go.Deep.add_add]; exact hget i u hu⟩
    obtain ⟨l, h1, h2, h3⟩ := key len (Nat.le_refl _)
    subst h1
    exact ⟨l, ⟨some a, m, rfl, hl, rfl, by omega, fun _ => ⟨a, rfl, h3⟩⟩, by omega, h2⟩
theorem opens_iso {d : Kd α} {ok : α → Prop} (f : β → α) (g : α → β) (hg : ∀ a, f (g a) = a) (ho : Opens P t d ok) : Opens P t (Kd.iso d f) (fun b => ok (f b)) := by
  refine ⟨ho.1, fun H enc w fuel cs x h => ?_⟩
  obtain ⟨a, hK, hok⟩ := ho.2 H enc w fuel cs x h
  refine ⟨g a, ?_, ?_⟩
  · show d.K w (f (g a)) cs
    rw [hg]; exact hK
  · show ok (f (g a))
    rw [hg]; exact hok
theorem opens_two {d0 : Kd α} {d1 : Kd β} {ok0 : α → Prop} {ok1 : β → Prop} {f0 f1 : Field} (hs : P.underlying t = some (.struct #[f0, f1])) (o0 : f0.offset = 0) (o1 : f1.offset = d0.sz) (hc : P.cellsOf t = d0.sz + d1.sz)
    (h0 : Opens P f0.type d0 ok0) (h1 : Opens P f1.type d1 ok1) : Opens P t (Kd.pair d0 d1) (fun x => ok0 x.1 ∧ ok1 x.2) := by
  refine ⟨hc, fun H enc w fuel cs x h => ?_⟩
  obtain ⟨xs, n, _, _, hl, hxl, hf⟩ := DataW.trod_struct hs h
  have hx0 := hf 0 f0 rfl
  have hx1 := hf 1 f1 rfl
  have l2 : xs.length = 2 := hxl
  rw [List.getElem?_eq_getElem (by omega)] at hx0 hx1
  obtain ⟨a0, k0, p0⟩ := h0.2 H enc w _ _ _ hx0
  obtain ⟨a1, k1, p1⟩ := h1.2 H enc w _ _ _ hx1
  rw [o0, h0.1, List.drop_zero] at k0
  rw [o1, h1.1] at k1
  refine ⟨(a0, a1), ⟨_, _, ?_, k0, k1⟩, p0, p1⟩
  rw [List.take_of_length_le (l := cs.drop d0.sz) (by rw [List.length_drop, hl, hc]; omega), List.take_append_drop]
theorem opens_three {γ : Type} {d0 : Kd α} {d1 : Kd β} {d2 : Kd γ} {ok0 : α → Prop} {ok1 : β → Prop} {ok2 : γ → Prop} {f0 f1 f2 : Field} (hs : P.underlying t = some (.struct #[f0, f1, f2])) (o0 : f0.offset = 0) (o1 : f1.offset = d0.sz) (o2 : f2.offset = d0.sz + d1.sz) (hc : P.cellsOf t = d0.sz + (d1.sz + d2.sz))
    (h0 : Opens P f0.type d0 ok0) (h1 : Opens P f1.type d1 ok1) (h2 : Opens P f2.type d2 ok2) : Opens P t (Kd.pair d0 (Kd.pair d1 d2)) (fun x => ok0 x.1 ∧ ok1 x.2.1 ∧ ok2 x.2.2) := by
  refine ⟨hc, fun H enc w fuel cs x h => ?_⟩
  obtain ⟨xs, n, _, _, hl, hxl, hf⟩ := DataW.trod_struct hs h
  have hx0 := hf 0 f0 rfl
  have hx1 := hf 1 f1 rfl
  have hx2 := hf 2 f2 rfl
  have l2 : xs.length = 3 := hxl
  rw [List.getElem?_eq_getElem (by omega)] at hx0 hx1 hx2
  obtain ⟨a0, k0, p0⟩ := h0.2 H enc w _ _ _ hx0
  obtain ⟨a1, k1, p1⟩ := h1.2 H enc w _ _ _ hx1
  obtain ⟨a2, k2, p2⟩ := h2.2 H enc w _ _ _ hx2
  rw [o0, h0.1, List.drop_zero] at k0
  rw [o1, h1.1] at k1
  rw [o2, h2.1] at k2
  refine ⟨(a0, a1, a2), ⟨_, _, ?_, k0, _, _, rfl, k1, k2⟩, p0, p1, p2⟩
  rw [List.take_of_length_le (l := cs.drop (d0.sz + d1.sz)) (by rw [List.length_drop, hl, hc]; omega), ← List.drop_drop, List.take_append_drop, List.take_append_drop]
end
end Go.Proofs.YtmijbppapjcfkaaO
