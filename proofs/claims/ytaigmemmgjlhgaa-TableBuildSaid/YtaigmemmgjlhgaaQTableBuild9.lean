/- Texts of this claim, joined by a program of this session (wip/pack.py): Less. -/
import Derived.Test.YtaigmemmgjlhgaaProg
import Derived.WalkKit
-- Less
namespace Go.Proofs.Ytaigmemmgjlhgaa.Print
theorem less_refl (x : List UInt8) : Op.bytesLess x x = false := by
 induction x with
 | nil => rfl
 | cons a x ih => simp [Op.bytesLess, ih]
theorem less_anti : ∀ {x y : List UInt8}, Op.bytesLess x y = true → Op.bytesLess y x = false
 | [], [], _ => rfl
 | [], _ :: _, _ => rfl
 | _ :: _, [], h => by simp [Op.bytesLess] at h
 | a :: x, b :: y, h => by
  simp only [Op.bytesLess, Bool.or_eq_true, decide_eq_true_eq, Bool.and_eq_true, beq_iff_eq, Bool.or_eq_false_iff, decide_eq_false_iff_not, Bool.and_eq_false_iff] at h ⊢
  rcases h with h | ⟨rfl, h⟩
  ·exact ⟨UInt8.not_lt.2 (UInt8.le_of_lt h), .inl (by simpa using fun e => by subst e; exact UInt8.lt_irrefl _ h)⟩
  ·exact ⟨UInt8.lt_irrefl _, .inr (less_anti h)⟩
theorem less_ne {x y : List UInt8} (h : Op.bytesLess x y = true) : x ≠ y := by
 rintro rfl
 rw [less_refl] at h
 cases h
theorem less_ne1 {x y : List UInt8} (h : Op.bytesLess x y = true) : (x == y) = false := beq_eq_false_iff_ne.2 (less_ne h)
theorem less_ne2 {x y : List UInt8} (h : Op.bytesLess x y = true) : (y == x) = false := beq_eq_false_iff_ne.2 (less_ne h).symm
theorem less_or : ∀ {x y : List UInt8}, Op.bytesLess x y = false → Op.bytesLess y x = true ∨ y = x
 | [], [], _ => .inr rfl
 | [], _ :: _, h => by simp [Op.bytesLess] at h
 | _ :: _, [], _ => .inl rfl
 | a :: x, b :: y, h => by
  simp only [Op.bytesLess, Bool.or_eq_true, decide_eq_true_eq, Bool.and_eq_true, beq_iff_eq, Bool.or_eq_false_iff, decide_eq_false_iff_not, Bool.and_eq_false_iff] at h ⊢
  rcases UInt8.lt_or_eq_of_le (UInt8.not_lt.1 h.1) with h1 | h1
  ·exact .inl (.inl h1)
  ·subst h1
   rcases h.2 with h2 | h2
   ·simp at h2
   ·rcases less_or h2 with h3 | rfl
    ·exact .inl (.inr ⟨rfl, h3⟩)
    ·exact .inr rfl
theorem less_orB {x y : List UInt8} (h : Op.bytesLess x y = false) : (Op.bytesLess y x || y == x) = true := by
 rcases less_or h with h | h <;> simp [h]
theorem less_gt (x y : List UInt8) : (!Op.bytesLess x y && !x == y) = Op.bytesLess y x := by
 cases h : Op.bytesLess y x with
 | true => rw [less_anti h, less_ne2 h]; rfl
 | false => have h2 := less_orB h; revert h2; cases Op.bytesLess x y <;> cases (x == y) <;> simp
theorem isEmpty_bne (x : List UInt8) : x.isEmpty = !(x != []) := by cases x <;> rfl
end Go.Proofs.Ytaigmemmgjlhgaa.Print
