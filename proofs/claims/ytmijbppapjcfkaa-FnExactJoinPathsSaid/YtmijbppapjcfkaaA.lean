/- Rows of the law's own, each within its bounds of blocks: what is told of them while others are written. -/
import Derived.Test.YtmijbppapjcfkaaWApart
import Derived.Test.YtmijbppapjcfkaaWKept
import Derived.Test.YtmijbppapjcfkaaWMore
import Derived.Test.YtmijbppapjcfkaaProg
import Derived.WalkKit
namespace Go.Proofs.YtmijbppapjcfkaaA
open Go.RowKit Go.Proofs.YtmijbppapjcfkaaW.PrintWords Go.Proofs.YtmijbppapjcfkaaW.PrintLast Go.Proofs.YtmijbppapjcfkaaW.PrintMore
set_option linter.unusedVariables false
theorem below_drawn {w w' : World} (h : Drawn0 w w') : Below w.heap.size w w' := by
  obtain ⟨n, rfl⟩ := h.out
  exact pw_below_drewN (Below.refl _ _) n
section
variable {α : Type} {d : Kd α} {e : Nat} {w W W' : World} {lo hi a b : Nat} {v : Value} {xs ys : List α} {ok : Nat → Prop}
/-- A row of rows in the blocks from lo to hi. -/
def AtS (d : Kd α) (e lo hi : Nat) (W : World) (v : Value) (xs : List α) : Prop := Kd.S d e W lo (fun k => lo ≤ k ∧ k < hi) v xs ∧ hi ≤ W.heap.size
def AtR (d : Kd α) (e lo hi : Nat) (W : World) (v : Value) (xs : List α) : Prop := Kd.R d e W lo (fun k => lo ≤ k ∧ k < hi) v xs ∧ hi ≤ W.heap.size
theorem AtS.of (h : Kd.S d e W lo ok v xs) : AtS d e lo W.heap.size W v xs := ⟨Kd.S_mono (Kd.S_bound h) (fun k hk => ⟨hk.2.1, hk.2.2.1⟩), Nat.le_refl _⟩
theorem AtR.of (h : Kd.R d e W lo ok v xs) : AtR d e lo W.heap.size W v xs := ⟨Kd.R_mono (Kd.R_bound h) (fun k hk => ⟨hk.2.1, hk.2.2.1⟩), Nat.le_refl _⟩
theorem AtS.below (h : AtS d e lo hi W v xs) (hb : Below W.heap.size W W') : AtS d e lo hi W' v xs := ⟨Kd.S_below h.1 hb, Nat.le_trans h.2 hb.size⟩
theorem AtR.below (h : AtR d e lo hi W v xs) (hb : Below W.heap.size W W') : AtR d e lo hi W' v xs := ⟨Kd.R_below h.1 hb, Nat.le_trans h.2 hb.size⟩
theorem AtS.kept (h : AtS d e lo hi W v xs) (hk : Kept W W' (fun k => a ≤ k ∧ k < b)) (hd : hi ≤ a ∨ b ≤ lo) : AtS d e lo hi W' v xs :=
  ⟨Kd.S_step h.1 (fun k ho hlt => hk.2 k hlt (fun hc => by omega)), Nat.le_trans h.2 hk.1⟩
theorem AtR.kept (h : AtR d e lo hi W v xs) (hk : Kept W W' (fun k => a ≤ k ∧ k < b)) (hd : hi ≤ a ∨ b ≤ lo) : AtR d e lo hi W' v xs :=
  ⟨Kd.R_step h.1 (fun k ho hlt => hk.2 k hlt (fun hc => by omega)), Nat.le_trans h.2 hk.1⟩
theorem AtS.mark (h : AtS d e lo hi W v xs) (hl : w.heap.size ≤ lo) : Kd.S d e W w.heap.size (fun k => lo ≤ k ∧ k < hi) v xs := Kd.S_lower h.1 hl
theorem AtR.mark (h : AtR d e lo hi W v xs) (hl : w.heap.size ≤ lo) : Kd.R d e W w.heap.size (fun k => lo ≤ k ∧ k < hi) v xs := Kd.R_lower h.1 hl
theorem AtS.reads (h : AtS d e lo hi W v xs) : ∃ A c, v = .slice A xs.length c ∧ xs.length ≤ c ∧ d.C W A xs.length xs := Kd.R_reads (Kd.S_R h.1)
theorem AtR.reads (h : AtR d e lo hi W v xs) : ∃ A c, v = .slice A xs.length c ∧ xs.length ≤ c ∧ d.C W A xs.length xs := Kd.R_reads h.1
theorem AtS.form (h : AtS d e lo hi W v xs) : ∃ A c, v = .slice A xs.length c ∧ xs.length ≤ c := by obtain ⟨A, c, h1, h2, _⟩ := h.reads; exact ⟨A, c, h1, h2⟩
theorem AtR.form (h : AtR d e lo hi W v xs) : ∃ A c, v = .slice A xs.length c ∧ xs.length ≤ c := by obtain ⟨A, c, h1, h2, _⟩ := h.reads; exact ⟨A, c, h1, h2⟩
theorem AtS.C {A : Option Addr} {n c : Nat} (h : AtS d e lo hi W (.slice A n c) xs) : d.C W A xs.length xs := (Kd.R_reads' (Kd.S_R h.1)).2.2
theorem AtR.C {A : Option Addr} {n c : Nat} (h : AtR d e lo hi W (.slice A n c) xs) : d.C W A xs.length xs := (Kd.R_reads' h.1).2.2
end
end Go.Proofs.YtmijbppapjcfkaaA
