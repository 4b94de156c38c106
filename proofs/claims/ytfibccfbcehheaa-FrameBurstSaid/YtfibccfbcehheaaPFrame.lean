/- Plain theory (PFrame), without any program. -/
import Derived.Test.YtfibccfbcehheaaPCrc
import Derived.Test.YtfibccfbcehheaaPCode
namespace PFrame
open PCode
def sumOf (l : List UInt8) : BitVec 32 := PCrc.sum 0 l
def mark (l : List UInt8) : List UInt8 := PCrc.le4 (sumOf l)
theorem le4_length (u : BitVec 32) : (PCrc.le4 u).length = 4 := rfl
theorem seal_length (l : List UInt8) : (mark l).length = 4 := rfl
theorem seal_iff (l m : List UInt8) (u : BitVec 32) (hm : m = PCrc.le4 u) : mark l = m ↔ PCrc.fold (~~~ 0) (l ++ m) = PCrc.residue := by
  subst hm
  rw [PCrc.seal_iff]
  unfold mark sumOf PCrc.sum
  constructor
  · intro h
    have a := PCrc.fold_le4 0 (~~~ PCrc.fold (~~~ 0) l)
    rw [h, PCrc.fold_le4] at a
    have := PCrc.zs_inj 32 a
    simpa using this
  · intro h; rw [h]
/-- any four bytes are a number's -/
theorem le4_of (m : List UInt8) (h : m.length = 4) : ∃ u, m = PCrc.le4 u := by
  match m, h with
  | [a, b, c, d], _ =>
    have ha := a.toNat_lt
    have hb := b.toNat_lt
    have hc := c.toNat_lt
    have hd := d.toNat_lt
    refine ⟨BitVec.ofNat 32 (a.toNat + 256 * b.toNat + 65536 * c.toNat + 16777216 * d.toNat), ?_⟩
    have e : (BitVec.ofNat 32 (a.toNat + 256 * b.toNat + 65536 * c.toNat + 16777216 * d.toNat)).toNat = a.toNat + 256 * b.toNat + 65536 * c.toNat + 16777216 * d.toNat := by
      rw [BitVec.toNat_ofNat]; omega
    unfold PCrc.le4
    rw [e]
    congr
    · rw [← UInt8.toNat_inj, toNat_ofNat_lt (by omega)]; omega
    · rw [← UInt8.toNat_inj, toNat_ofNat_lt (by omega)]; omega
    · rw [← UInt8.toNat_inj, toNat_ofNat_lt (by omega)]; omega
    · rw [← UInt8.toNat_inj, toNat_ofNat_lt (by omega)]; omega
theorem seal_eq_iff (l m : List UInt8) (hm : m.length = 4) : mark l = m ↔ PCrc.fold (~~~ 0) (l ++ m) = PCrc.residue := by
  obtain ⟨u, rfl⟩ := le4_of m hm
  exact seal_iff l _ u rfl
def put (p : List UInt8) : List UInt8 × Nat := if 65536 < p.length then ([], 3) else (putField p ++ mark (putField p), 0)
/-- payload, size, error -/
def get (s : List UInt8) : List UInt8 × Nat × Nat :=
  if (field s 65536).2.2 ≠ 0 then ([], 0, (field s 65536).2.2)
  else if s.length - (field s 65536).2.1 < 4 then ([], 0, 6)
  else if mark (s.take (field s 65536).2.1) ≠ (s.drop (field s 65536).2.1).take 4 then ([], 0, 7)
  else ((field s 65536).1, (field s 65536).2.1 + 4, 0)
theorem put_ok {p : List UInt8} (h : p.length ≤ 65536) : put p = (putField p ++ mark (putField p), 0) := by unfold put; rw [if_neg (by omega)]
theorem get_put (p b : List UInt8) (h : p.length ≤ 65536) : get ((put p).1 ++ b) = (p, (put p).1.length, 0) := by
  rw [put_ok h]
  dsimp only
  have hf := field_put p (mark (putField p) ++ b) 65536 (by omega) (by omega)
  unfold get
  rw [List.append_assoc, hf]
  dsimp only
  have hl : (mark (putField p)).length = 4 := seal_length _
  rw [if_neg (by simp), if_neg (by simp [hl]), if_neg, List.length_append, hl]
  rw [List.take_left, List.drop_left, List.take_append_of_le_length (by omega), List.take_of_length_le (by omega)]
  simp
theorem get_ok {s p : List UInt8} {n : Nat} (h : get s = (p, n, 0)) : (put p).2 = 0 ∧ (put p).1 = s.take n ∧ 5 ≤ n ∧ n ≤ s.length ∧ p.length ≤ 65536 ∧ (put p).1.length = n := by
  unfold get at h
  split at h
  · rename_i e
    simp only [Prod.mk.injEq] at h
    exact absurd h.2.2 e
  · rename_i e
    have e : (field s 65536).2.2 = 0 := by simpa using e
    split at h
    · simp at h
    · rename_i h4
      split at h
      · simp at h
      · rename_i hs
        have hs : mark (s.take (field s 65536).2.1) = (s.drop (field s 65536).2.1).take 4 := by simpa using hs
        obtain ⟨a, b, c, d⟩ := field_ok (l := s) (t := (field s 65536).1) (s := (field s 65536).2.1) (most := 65536) (by rw [← e])
        simp only [Prod.mk.injEq, and_true] at h
        obtain ⟨rfl, rfl⟩ := h
        have hp : (field s 65536).1.length ≤ 65536 := by omega
        rw [put_ok hp]
        dsimp only
        have e2 : putField (field s 65536).1 ++ mark (putField (field s 65536).1) = s.take ((field s 65536).2.1 + 4) := by rw [a, hs, List.take_add]
        refine ⟨rfl, e2, by omega, by omega, hp, by rw [e2]; simp; omega⟩
theorem get_err (s : List UInt8) : (get s).2.2 = 0 ∨ ((get s).1 = [] ∧ (get s).2.1 = 0) := by
  unfold get
  split
  · right; exact ⟨rfl, rfl⟩
  · split
    · right; exact ⟨rfl, rfl⟩
    · split
      · right; exact ⟨rfl, rfl⟩
      · left; rfl
theorem put_length_pos {p : List UInt8} (h : p.length ≤ 65536) : 5 ≤ (put p).1.length := by
  rw [put_ok h]
  have := putUint_pos p.length
  simp [putField, seal_length]; omega
/-- a frame that is cut short -/
theorem get_cut {p : List UInt8} (h : p.length ≤ 65536) {i : Nat} (hi : i < (put p).1.length) : get ((put p).1.take i) = ([], 0, 6) := by
  rw [put_ok h] at hi ⊢
  dsimp only at hi ⊢
  rw [List.length_append, seal_length] at hi
  unfold get
  by_cases c : i < (putField p).length
  · rw [List.take_append_of_le_length (by omega), field_cut (by omega) (by omega) c]
    simp
  · rw [List.take_append, List.take_of_length_le (by omega), field_put p _ 65536 (by omega) (by omega)]
    dsimp only
    rw [if_neg (by simp), if_pos]
    simp [seal_length]; omega
/-! frames one behind the other -/
def all (s : List UInt8) : List (List UInt8) × Nat × Nat :=
  if _h : s = [] ∨ (get s).2.2 ≠ 0 ∨ (get s).2.1 = 0 then ([], 0, if s = [] then 0 else (get s).2.2)
  else ((get s).1 :: (all (s.drop (get s).2.1)).1, (get s).2.1 + (all (s.drop (get s).2.1)).2.1, (all (s.drop (get s).2.1)).2.2)
  termination_by s.length
  decreasing_by
  all_goals
    have h1 : s ≠ [] := fun e => _h (.inl e)
    have := List.length_pos_iff.mpr h1
    have h2 : (get s).2.1 ≠ 0 := fun e => _h (.inr (.inr e))
    simp; omega
theorem get_size_pos {s : List UInt8} (h : (get s).2.2 = 0) : 5 ≤ (get s).2.1 ∧ (get s).2.1 ≤ s.length := by
  have := get_ok (s := s) (p := (get s).1) (n := (get s).2.1) (by rw [← h])
  omega
theorem all_nil : all [] = ([], 0, 0) := by rw [all, dif_pos (.inl rfl), if_pos rfl]
theorem all_stop {s : List UInt8} (h0 : s ≠ []) (h : (get s).2.2 ≠ 0) : all s = ([], 0, (get s).2.2) := by rw [all, dif_pos (.inr (.inl h)), if_neg h0]
theorem all_go {s : List UInt8} (h0 : s ≠ []) (h : (get s).2.2 = 0) : all s = ((get s).1 :: (all (s.drop (get s).2.1)).1, (get s).2.1 + (all (s.drop (get s).2.1)).2.1, (all (s.drop (get s).2.1)).2.2) := by
  have := get_size_pos h
  rw [all, dif_neg]
  rintro (e | e | e)
  · exact h0 e
  · exact e h
  · omega
theorem all_le (k : Nat) : ∀ s : List UInt8, s.length ≤ k → (all s).2.1 ≤ s.length := by
  induction k with
  | zero => intro s h; have : s = [] := by simpa using h
            subst this; rw [all_nil]; exact Nat.zero_le _
  | succ k ih =>
    intro s h
    by_cases h0 : s = []
    · subst h0; rw [all_nil]; exact Nat.zero_le _
    · by_cases he : (get s).2.2 = 0
      · have hp := get_size_pos he
        rw [all_go h0 he]
        have := ih (s.drop (get s).2.1) (by simp; omega)
        simp only [List.length_drop] at this
        dsimp only
        omega
      · rw [all_stop h0 he]; exact Nat.zero_le _
end PFrame
