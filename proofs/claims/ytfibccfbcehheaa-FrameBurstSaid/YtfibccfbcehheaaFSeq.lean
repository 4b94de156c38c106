/- Frames one behind the other, step by step: what a loop over them has seen. No program in sight. -/
import Derived.Test.YtfibccfbcehheaaPFrame
namespace Go.Proofs.Ytfibccfbcehheaa.FSeq
open PFrame
/-- the payloads, and where each ends -/
def steps (s : List UInt8) (a : Nat) : List (List UInt8 × Nat) :=
  if _h : (get s).2.2 ≠ 0 ∨ (get s).2.1 = 0 then [] else ((get s).1, a + (get s).2.1) :: steps (s.drop (get s).2.1) (a + (get s).2.1)
  termination_by s.length
  decreasing_by
    have h1 : (get s).2.2 = 0 := by
      by_cases h : (get s).2.2 = 0
      · exact h
      · exact absurd (Or.inl h) _h
    have h2 := get_size_pos h1
    rw [List.length_drop]
    omega
theorem steps_stop {s : List UInt8} {a : Nat} (h : (get s).2.2 ≠ 0) : steps s a = [] := by rw [steps, dif_pos (.inl h)]
theorem steps_go {s : List UInt8} {a : Nat} (h : (get s).2.2 = 0) : steps s a = ((get s).1, a + (get s).2.1) :: steps (s.drop (get s).2.1) (a + (get s).2.1) := by
  have := get_size_pos h
  rw [steps, dif_neg]
  rintro (e | e)
  · exact e h
  · omega
/-- where the last one ends -/
def endOf (a : Nat) : List (List UInt8 × Nat) → Nat
  | [] => a
  | x :: l => endOf x.2 l
theorem endOf_snoc (a : Nat) (l : List (List UInt8 × Nat)) (x : List UInt8 × Nat) : endOf a (l ++ [x]) = x.2 := by
  induction l generalizing a with
  | nil => rfl
  | cons y l ih => exact ih y.2
theorem get_empty : (get []).2.2 ≠ 0 := by
  intro h
  have := get_size_pos h
  simp at this
  omega
theorem all_steps (k : Nat) : ∀ (s : List UInt8) (a : Nat), s.length ≤ k →
    (all s).1 = (steps s a).map (·.1) ∧ a + (all s).2.1 = endOf a (steps s a) ∧ (all s).2.1 ≤ s.length ∧ (all s).2.2 = if (all s).2.1 < s.length then (get (s.drop (all s).2.1)).2.2 else 0 := by
  induction k with
  | zero =>
    intro s a h
    obtain rfl : s = [] := by simpa using h
    rw [all_nil, steps_stop get_empty]
    exact ⟨rfl, rfl, Nat.le_refl _, rfl⟩
  | succ k ih =>
    intro s a h
    by_cases h0 : s = []
    · subst h0
      rw [all_nil, steps_stop get_empty]
      exact ⟨rfl, rfl, Nat.le_refl _, rfl⟩
    by_cases he : (get s).2.2 = 0
    · have hz := get_size_pos he
      obtain ⟨g1, g2, g3, g4⟩ := ih (s.drop (get s).2.1) (a + (get s).2.1) (by rw [List.length_drop]; omega)
      rw [all_go h0 he, steps_go he]
      rw [List.length_drop] at g3 g4
      refine ⟨?_, ?_, ?_, ?_⟩
      · simp only [List.map_cons]; rw [g1]
      · show a + ((get s).2.1 + _) = endOf (a + (get s).2.1) _
        rw [← g2]; omega
      · show (get s).2.1 + _ ≤ _
        omega
      · show (all (s.drop (get s).2.1)).2.2 = if (get s).2.1 + (all (s.drop (get s).2.1)).2.1 < s.length then (get (s.drop ((get s).2.1 + (all (s.drop (get s).2.1)).2.1))).2.2 else 0
        rw [g4, List.drop_drop]
        by_cases hl : (all (s.drop (get s).2.1)).2.1 < s.length - (get s).2.1
        · rw [if_pos hl, if_pos (by omega)]
        · rw [if_neg hl, if_neg (by omega)]
    · rw [all_stop h0 he, steps_stop he]
      have hp : 0 < s.length := List.length_pos_iff.mpr h0
      refine ⟨rfl, rfl, Nat.zero_le _, ?_⟩
      show (get s).2.2 = if 0 < s.length then (get (s.drop 0)).2.2 else 0
      rw [if_pos hp, List.drop_zero]
/-- what a loop has seen: a part, and what is still to come -/
structure Part (s : List UInt8) (pre : List (List UInt8 × Nat)) : Prop where
  rest : steps s 0 = pre ++ steps (s.drop (endOf 0 pre)) (endOf 0 pre)
  le : endOf 0 pre ≤ s.length
theorem Part.nil (s : List UInt8) : Part s [] := ⟨rfl, Nat.zero_le _⟩
theorem Part.snoc {s : List UInt8} {pre : List (List UInt8 × Nat)} (h : Part s pre) (he : (get (s.drop (endOf 0 pre))).2.2 = 0) :
    Part s (pre ++ [((get (s.drop (endOf 0 pre))).1, endOf 0 pre + (get (s.drop (endOf 0 pre))).2.1)]) := by
  have hz := get_size_pos he
  rw [List.length_drop] at hz
  have hle := h.le
  refine ⟨?_, ?_⟩
  · rw [endOf_snoc]
    show _ = _ ++ steps (s.drop (endOf 0 pre + _)) _
    rw [h.rest, steps_go he, List.drop_drop, List.append_assoc]
    rfl
  · rw [endOf_snoc]
    show endOf 0 pre + _ ≤ _
    omega
theorem Part.stop {s : List UInt8} {pre : List (List UInt8 × Nat)} (h : Part s pre) (he : (get (s.drop (endOf 0 pre))).2.2 ≠ 0) : pre = steps s 0 := by
  rw [h.rest, steps_stop he, List.append_nil]
theorem Part.full {s : List UInt8} {pre : List (List UInt8 × Nat)} (h : Part s pre) (he : endOf 0 pre = s.length) : pre = steps s 0 := by
  refine h.stop ?_
  rw [he, List.drop_length]
  exact get_empty
/-- what All hands back of all steps -/
theorem all_of (s : List UInt8) : all s = ((steps s 0).map (·.1), endOf 0 (steps s 0), if endOf 0 (steps s 0) < s.length then (get (s.drop (endOf 0 (steps s 0)))).2.2 else 0) := by
  obtain ⟨g1, g2, g3, g4⟩ := all_steps s.length s 0 (Nat.le_refl _)
  rw [Nat.zero_add] at g2
  rw [← g2, ← g1, ← g4]
theorem steps_length (k : Nat) : ∀ (s : List UInt8) (a : Nat), s.length ≤ k → 5 * (steps s a).length ≤ s.length := by
  induction k with
  | zero =>
    intro s a h
    obtain rfl : s = [] := by simpa using h
    rw [steps_stop get_empty]
    exact Nat.le_refl _
  | succ k ih =>
    intro s a h
    by_cases he : (get s).2.2 = 0
    · have hz := get_size_pos he
      have := ih (s.drop (get s).2.1) (a + (get s).2.1) (by rw [List.length_drop]; omega)
      rw [steps_go he, List.length_cons]
      rw [List.length_drop] at this
      omega
    · rw [steps_stop he]
      exact Nat.zero_le _
theorem Part.short {s : List UInt8} {pre : List (List UInt8 × Nat)} (h : Part s pre) : 5 * pre.length ≤ s.length := by
  have h1 := steps_length s.length s 0 (Nat.le_refl _)
  have h2 := congrArg List.length h.rest
  rw [List.length_append] at h2
  omega
end Go.Proofs.Ytfibccfbcehheaa.FSeq
