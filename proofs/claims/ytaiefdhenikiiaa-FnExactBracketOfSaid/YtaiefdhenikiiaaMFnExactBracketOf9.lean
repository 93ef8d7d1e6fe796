/- Texts that the proof of FnExactBracketOf needs, part 9. No condition. -/
import Derived.Test.YtaiefdhenikiiaaMFnExactBracketOf8
import Derived.Lib.Bytealg
namespace Go.Proofs.Ytaiefdhenikiiaa.Base
open Go.RowKit Go.Proofs.YtaiefdhenikiiaaW.PrintWords Go.Proofs.YtaiefdhenikiiaaW.PrintLast Go.Proofs.YtaiefdhenikiiaaW.PrintMore
set_option linter.unusedVariables false
set_option linter.unusedSimpArgs false
theorem within_is (x lo hi : Int) : impl_within.f x lo hi = some (decide (lo ≤ x ∧ x ≤ hi)) := by
  unfold impl_within.f
  by_cases h : lo ≤ x
  · rw [if_pos h]; simp [h]
  · rw [if_neg h]; simp [h]
/-- A letter's byte. -/
def letB (d : Nat) (b : UInt8) : Bool := decide (48 ≤ b.toNat ∧ b.toNat < 48 + d)
def wordB (d n : Nat) (s : ByteArray) : Bool := s.data.toList.all (letB d) && decide ((s.size : Int) ≤ (n : Int))
theorem word_loop (d n : Nat) (hd : d ≤ 9) (s : ByteArray) (hs : s.size ≤ 9223372036854775806) (m : Nat) : ∀ i : Nat, i + m = s.size →
    Ev (fun k => impl_isWord.l0 k (d : Int) s (n : Int) (s.size : Int) (i : Int)) ((s.data.toList.drop i).all (letB d) && decide ((s.size : Int) ≤ (n : Int))) := by
  have hsz : s.data.toList.length = s.size := by rw [Array.length_toList]; rfl
  induction m with
  | zero =>
    intro i hi
    refine Ev.step (f := fun _ => some (decide ((s.size : Int) ≤ (n : Int)))) (fun k => ?_) ?_
    · simp only [impl_isWord.l0]
      rw [if_neg (by omega)]
    · rw [List.drop_eq_nil_of_le (by omega)]
      exact Ev.now _
  | succ m ih =>
    intro i hi
    have hlt : i < s.data.toList.length := by omega
    have hls : i < s.size := by omega
    have hb : bt s (i : Int) = ((s.data.toList[i]).toNat : Int) := by
      unfold bt
      rw [dif_pos (by simpa using hls)]
      rfl
    have hr : (s.data.toList[i]).toNat < 256 := (s.data.toList[i]).toNat_lt
    obtain ⟨b, hbb⟩ : ∃ b, b = s.data.toList[i] := ⟨_, rfl⟩
    rw [List.drop_eq_getElem_cons hlt, List.all_cons, ← hbb]
    rw [← hbb] at hb hr
    by_cases c : letB d b = true
    · refine Ev.step (fun k => ?_) (by rw [c, Bool.true_and]; exact ih (i + 1) (by omega))
      have c' := of_decide_eq_true c
      simp only [impl_isWord.l0]
      rw [if_pos (by omega), if_pos (by omega), if_pos (by omega), hb, w64 (by omega) (by omega), w64 (by omega) (by omega), if_neg (by omega), if_neg (by omega), w64 (by omega) (by omega)]
      rfl
    · have cf : letB d b = false := by simpa using c
      have c' := of_decide_eq_false cf
      rw [cf, Bool.false_and, Bool.false_and]
      refine Ev.step (f := fun _ => some false) (fun k => ?_) (Ev.now _)
      simp only [impl_isWord.l0]
      rw [if_pos (by omega), if_pos (by omega), if_pos (by omega), hb, w64 (x := (b.toNat : Int)) (by omega) (by omega), w64 (x := 48 + (d : Int)) (by omega) (by omega)]
      by_cases c2 : (b.toNat : Int) < 48
      · rw [if_pos c2]
      · rw [if_neg c2, if_pos (by omega)]
theorem word_is (d n : Nat) (hd : d ≤ 9) (s : ByteArray) (hs : s.size ≤ 9223372036854775806) : Ev (fun k => impl_isWord.f k (d : Int) s (n : Int)) (wordB d n s) :=
  word_loop d n hd s hs s.size 0 (by omega)
end Go.Proofs.Ytaiefdhenikiiaa.Base
namespace Go.Proofs.Ytaiefdhenikiiaa.Base
open Go.RowKit Go.Proofs.YtaiefdhenikiiaaW.PrintWords Go.Proofs.YtaiefdhenikiiaaW.PrintLast Go.Proofs.YtaiefdhenikiiaaW.PrintMore
set_option linter.unusedVariables false
set_option linter.unusedSimpArgs false
/-- Does a word come before another one? -/
def befW (v w : ByteArray) : Bool := if (v.size : Int) ≠ (w.size : Int) then decide ((v.size : Int) < (w.size : Int)) else Op.bytesLess v.toList w.toList
end Go.Proofs.Ytaiefdhenikiiaa.Base
