/- Lemmas on the order of texts, for the walks' tests. -/
import Derived.WalkLawsBesides
namespace Go.Proofs.YtmijbppapjcfkaaZ
theorem less_irr : ∀ x : List UInt8, Op.bytesLess x x = false
  | [] => rfl
  | a :: x => by simp [Op.bytesLess, less_irr x]
/-- 'y <= x' is 'not x < y'. -/
theorem less_or : ∀ x y : List UInt8, (Op.bytesLess y x || y == x) = !Op.bytesLess x y
  | [], [] => rfl
  | [], b :: y => by simp [Op.bytesLess]
  | a :: x, [] => by simp [Op.bytesLess]
  | a :: x, b :: y => by
    have ih := less_or x y
    simp only [Op.bytesLess]
    by_cases h : a < b
    · have h1 : ¬ b < a := by simp only [UInt8.lt_iff_toNat_lt] at h ⊢; omega
      have h2 : ¬ b = a := fun e => by subst e; exact h1 h
      simp [h, h1, h2]
    · by_cases h3 : b < a
      · have h4 : ¬ a = b := fun e => by subst e; exact h h3
        simp [h, h3, h4]
      · have e : a = b := by
          apply UInt8.toNat_inj.mp
          simp only [UInt8.lt_iff_toNat_lt] at h h3; omega
        subst e
        simp [h, ← ih]
theorem less_yes {x y : List UInt8} (h : Op.bytesLess x y = true) : (Op.bytesLess y x || y == x) = false := by rw [less_or, h]; rfl
theorem less_no {x y : List UInt8} (h : Op.bytesLess x y = false) : (Op.bytesLess y x || y == x) = true := by rw [less_or, h]; rfl
theorem one_size (b : UInt8) : (⟨#[b]⟩ : ByteArray).size = 1 := rfl
theorem bne_nil (l : List UInt8) : (l != []) = !l.isEmpty := by cases l <;> rfl
theorem min2_string (x y : ByteArray) : Builtin.min2 (.string x) (.string y) = pure (.string (if (Op.bytesLess x.toList y.toList || x.toList == y.toList) then x else y)) := by
  simp [Builtin.min2, Op.stringOp, asBool]
end Go.Proofs.YtmijbppapjcfkaaZ
