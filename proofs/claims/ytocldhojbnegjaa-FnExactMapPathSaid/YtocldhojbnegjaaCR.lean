/- Rows of rows whose cells are put anew in place; slices.Reverse. -/
import Derived.Test.YtocldhojbnegjaaCM
import Derived.Test.YtocldhojbnegjaaShelf
namespace Go.Proofs.YtocldhojbnegjaaC
open Go.RowKit Go.Proofs.YtocldhojbnegjaaW.PrintWords Go.Proofs.YtocldhojbnegjaaW.PrintLast Go.Proofs.YtocldhojbnegjaaW.PrintMore
set_option linter.unusedVariables false
set_option linter.unusedSimpArgs false
/-- A value of one cell. -/
abbrev OneV := { v : Value // v.oneCell' = true }
instance : Inhabited OneV := ⟨⟨.slice none 0 0, rfl⟩⟩
def encV (x : OneV) : Value := x.1
theorem S_put {α : Type} {d : Kd α} (hd : d.sz = 1) {e : Nat} {w : World} {base g n cap : Nat} {ok : Nat → Prop} {xs : List α} (h : Kd.S d e w base ok (.slice (some ⟨g, 0, none⟩) n cap) xs) :
    ∃ (inner : List OneV) (cur : Array Value), n = xs.length ∧ inner.length = xs.length ∧ base ≤ g ∧ w.heap[g]? = some (.cells cur e (0, 0)) ∧ cur.size = cap ∧ n ≤ cap ∧ cap ≤ maxLen ∧ (∀ j (hj : j < inner.length), cur[j]? = some inner[j].1) ∧
      ∀ (ys : List α) (σ τ : Nat → Nat) (w' : World) (pc : Array Value), (∀ j, j < ys.length → σ j < xs.length ∧ τ (σ j) = j ∧ ys[j]? = xs[σ j]?) → ys.length ≤ cap → w'.heap[g]? = some (.cells pc e (0, 0)) →
        (∀ k, k ≠ g → w'.heap[k]? = w.heap[k]?) → pc.size = cap → (∀ j, j < ys.length → ∃ hs : σ j < inner.length, pc[j]? = some inner[σ j].1) → Kd.S d e w' base ok (.slice (some ⟨g, 0, none⟩) ys.length cap) ys := by
  obtain ⟨f, ho0, inner, ho, hr⟩ := h
  rw [List.length_zipIdx] at ho
  have hsz : (Kd.tag f d).sz = 1 := hd
  rw [hsz] at ho hr
  obtain ⟨hil, hcase⟩ := ho
  rw [Nat.mul_one] at hil
  rcases hcase with ⟨hv, _⟩ | ⟨g', cap', cur, hv, hg, hh, hcap, hmax, hcs, htk⟩
  · cases hv
  · injection hv with ha hb hc
    injection ha with ha
    injection ha with ha
    subst ha hb hc
    rw [Nat.mul_one] at hcs htk
    have hM : ∀ j (hj : j < xs.length), d.M w base (fun k => (ok k ∧ some k ≠ (Value.slice (some ⟨g, 0, none⟩) xs.length cap).ownBlock) ∧ f k = j) xs[j] [inner[j]'(by omega)] := by
      intro j hj
      have h2 : d.M w base (fun k => (ok k ∧ some k ≠ (Value.slice (some ⟨g, 0, none⟩) xs.length cap).ownBlock) ∧ f k = j) xs[j] ((inner.drop (j * 1)).take 1) := hr.2 j (xs[j], j) (Kd.zip_at (List.getElem?_eq_getElem hj))
      rw [Nat.mul_one, List.drop_eq_getElem_cons (by omega), List.take_succ_cons, List.take_zero] at h2
      exact h2
    have h1 : ∀ j (hj : j < inner.length), inner[j].oneCell' = true := fun j hj => d.K_one (d.K_of_M (hM j (by omega))) _ (List.mem_singleton.2 rfl)
    obtain ⟨inn, hinl, hina⟩ : ∃ inn : List OneV, inn.length = inner.length ∧ ∀ j (hj : j < inn.length) (hj2 : j < inner.length), inn[j].1 = inner[j] := by
      refine ⟨inner.attach.map fun x => ⟨x.1, ?_⟩, by rw [List.length_map, List.length_attach], fun j hj hj2 => by rw [List.getElem_map, List.getElem_attach]⟩
      obtain ⟨j, hj, he⟩ := List.mem_iff_getElem.1 x.2
      rw [← he]; exact h1 j hj
    refine ⟨inn, cur, rfl, by omega, hg, hh, hcs, hcap, hmax, fun j hj => ?_, ?_⟩
    · have h3 : (cur.toList.take xs.length)[j]? = some (inner[j]'(by omega)) := by rw [htk, List.getElem?_eq_getElem (by omega)]
      rw [List.getElem?_take, if_pos (by omega), Array.getElem?_toList] at h3
      rw [hina j hj (by omega)]; exact h3
    · intro ys σ τ w' pc hσ hle hh' hk hps hpc
      have hpl : pc.toList.length = cap := Array.length_toList.trans hps
      have hsz2 : (Kd.tag (fun k => τ (f k)) d).sz = 1 := hd
      refine ⟨fun k => τ (f k), fun k hk2 => ho0 k hk2, pc.toList.take ys.length, ⟨?_, .inr ⟨g, cap, pc, ?_, hg, hh', ?_, hmax, ?_, ?_⟩⟩, ?_, ?_⟩
      · rw [List.length_zipIdx, hsz2, Nat.mul_one, List.length_take, hpl]; omega
      · rw [List.length_zipIdx]
      · rw [List.length_zipIdx]; exact hle
      · rw [hsz2, Nat.mul_one]; exact hps
      · rw [List.length_zipIdx, hsz2, Nat.mul_one]
      · rw [List.length_zipIdx, hsz2, Nat.mul_one, List.length_take, hpl]; omega
      · intro j p hj
        rw [List.getElem?_zipIdx, Nat.zero_add] at hj
        cases hy : ys[j]? with
        | none => rw [hy] at hj; cases hj
        | some y =>
          rw [hy] at hj
          obtain rfl := Option.some.inj hj
          have hjl : j < ys.length := (List.getElem?_eq_some_iff.1 hy).1
          obtain ⟨s1, s2, s3⟩ := hσ j hjl
          obtain ⟨hs, hp⟩ := hpc j hjl
          have hyx : y = xs[σ j] := by
            rw [hy, List.getElem?_eq_getElem s1] at s3
            exact Option.some.inj s3
          have hcell : ((pc.toList.take ys.length).drop (j * (Kd.tag (fun k => τ (f k)) d).sz)).take (Kd.tag (fun k => τ (f k)) d).sz = [inner[σ j]'(by omega)] := by
            have hz : (Kd.tag (fun k => τ (f k)) d).sz = 1 := hd
            rw [hz, Nat.mul_one]
            have hjp : j < (pc.toList.take ys.length).length := by rw [List.length_take, hpl]; omega
            rw [List.drop_eq_getElem_cons hjp, List.take_succ_cons, List.take_zero]
            congr 1
            have hq : (pc.toList.take ys.length)[j]? = some inn[σ j].1 := by rw [List.getElem?_take, if_pos hjl, Array.getElem?_toList]; exact hp
            rw [List.getElem?_eq_getElem hjp] at hq
            rw [Option.some.inj hq, hina (σ j) hs (by omega)]
          rw [hcell]
          show d.M w' base (fun k => (ok k ∧ some k ≠ (Value.slice (some ⟨g, 0, none⟩) ys.length cap).ownBlock) ∧ τ (f k) = j) y [inner[σ j]'(by omega)]
          rw [hyx]
          refine d.M_mono (ok := fun k => (ok k ∧ some k ≠ (Value.slice (some ⟨g, 0, none⟩) xs.length cap).ownBlock) ∧ f k = σ j) (fun k hk2 => ⟨hk2.1, by rw [hk2.2]; exact s2⟩) ?_
          exact d.M_move (fun k hk2 => hk k (fun e => hk2.1.2 (by rw [e]; rfl))) (hM (σ j) s1)
open Go.Sort in
theorem put_block {β : Type} [Inhabited β] (enc : β → Value) (w : World) (g q : Nat) (d : Array β) (cur : Array Value) (e : TypeId) (hg : w.heap[g]? = some (.cells cur e (0, 0))) :
    (putRow enc (Sort.ahead w q) g 0 d).heap[g]? = some (.cells (putCells enc 0 d cur) e (0, 0)) ∧ ∀ k, k ≠ g → (putRow enc (Sort.ahead w q) g 0 d).heap[k]? = w.heap[k]? := by
  unfold putRow mapBlock
  refine ⟨?_, fun k hk => ?_⟩
  · simp only [Array.getElem?_modify, heap_ahead, if_true, hg, Option.map_some, onCells]
  · simp only [Array.getElem?_modify, heap_ahead]
    rw [if_neg (fun h => hk h.symm)]
open Go.Sort in
theorem put_at {β : Type} [Inhabited β] (enc : β → Value) (d : Array β) (cur : Array Value) (j : Nat) (hj : j < d.size) (hc : d.size ≤ cur.size) : (putCells enc 0 d cur)[j]? = some (enc d[j]) := by
  unfold putCells
  rw [Array.getElem?_mapIdx, Array.getElem?_eq_getElem (by omega), Option.map_some, if_pos ⟨by omega, by omega⟩, Nat.sub_zero, getElem!_pos d j hj]
open Go.Sort in
theorem holds_inner {w : World} {g e : Nat} {cur : Array Value} {inner : List OneV} (hh : w.heap[g]? = some (.cells cur e (0, 0))) (hc : ∀ j (hj : j < inner.length), cur[j]? = some inner[j].1) : Holds encV w g 0 inner.toArray := by
  intro j hj
  have hj' : j < inner.length := by simpa using hj
  refine ⟨?_, blk_frozen hh _⟩
  rw [Nat.zero_add, blk_cell hh, hc j hj', getElem!_pos inner.toArray j hj]
  rfl
open Go.Sort in
theorem reverse_any {w0 w : World} {ok : Nat → Prop} {A : Option Addr} {n c : Nat} {xs : List (List Int)} (hB : Below w0.heap.size w0 w) (h : Kd.S (Kd.slice 2 (Kd.int .i64)) 40 w w0.heap.size ok (.slice A n c) xs) :
    Calls Try.prog 87 #[.slice A n c] w fun e w' => e = .returned (.tuple #[]) ∧ Kd.S (Kd.slice 2 (Kd.int .i64)) 40 w' w0.heap.size ok (.slice A n c) xs.reverse ∧ Below w0.heap.size w0 w' := by
  have hn := (Kd.R_reads' (Kd.S_R h)).1
  by_cases h0 : n = 0
  · subst h0
    have hx : xs = [] := List.eq_nil_of_length_eq_zero hn.symm
    subst hx
    refine (Try.slices_Reverse_empty (α := Int) A c w).mono ?_
    rintro e w' ⟨rfl, rfl⟩
    exact ⟨rfl, h, hB⟩
  · obtain ⟨g, cap, hv, _⟩ := Kd.R_form (Kd.S_R h) (by omega)
    injection hv with ha hb hc
    subst ha hb hc
    obtain ⟨inner, cur, _, hil, hg, hh, hcs, hcap, hmax, hcur, hput⟩ := S_put rfl h
    have hr := Try.slices_Reverse encV (fun x => x.2) g 0 c inner w (holds_inner hh hcur) (by unfold maxLen at hmax; omega)
    rw [hil] at hr
    refine hr.mono ?_
    rintro e w' ⟨rfl, q, rfl⟩
    obtain ⟨hb1, hb2⟩ := put_block encV w g q inner.reverse.toArray cur _ hh
    have hsz' := size_putRow encV (Sort.ahead w q) g 0 inner.reverse.toArray
    have h3 : (putRow encV (Sort.ahead w q) g 0 inner.reverse.toArray).os = w.os ∧ (putRow encV (Sort.ahead w q) g 0 inner.reverse.toArray).tape = w.tape ∧ (putRow encV (Sort.ahead w q) g 0 inner.reverse.toArray).output = w.output := ⟨rfl, rfl, rfl⟩
    have hrs : inner.reverse.toArray.size = xs.length := by simp [hil]
    refine ⟨rfl, ?_, ?_⟩
    · have hx : xs.length = xs.reverse.length := by simp
      rw [hx]
      refine hput xs.reverse (fun j => xs.length - 1 - j) (fun j => xs.length - 1 - j) _ _ (fun j hj => ?_) (by simp; omega) hb1 hb2 (by simp [putCells, hcs]) (fun j hj => ?_)
      · have hj' : j < xs.length := by simpa using hj
        refine ⟨by omega, by omega, ?_⟩
        rw [List.getElem?_reverse hj']
      · have hj' : j < xs.length := by simpa using hj
        refine ⟨by omega, ?_⟩
        rw [put_at encV _ cur j (by omega) (by omega)]
        simp only [encV, List.getElem_toArray, List.getElem_reverse, hil]
    · exact ⟨h3.1.trans hB.os, h3.2.1.trans hB.tape, h3.2.2.trans hB.output, by rw [hsz']; exact hB.size, fun k hk => by rw [hb2 k (by omega)]; exact hB.block k hk⟩
end Go.Proofs.YtocldhojbnegjaaC
