/- Plain theory (PBlock3), without any program. -/
import Derived.Test.YtjgbcaemcohmpaaPBlock2
namespace PBlock
open PCode
/-! where the restarts lie -/
def ceilDiv (i R : Nat) : Nat := (i + R - 1) / R
theorem ceil_zero {R : Nat} (h : 0 < R) : ceilDiv 0 R = 0 := by
  unfold ceilDiv; exact Nat.div_eq_of_lt (by omega)
theorem ceil_hit {i R : Nat} (h : 0 < R) (h0 : i % R = 0) : R * ceilDiv i R = i ∧ ceilDiv (i + 1) R = ceilDiv i R + 1 := by
  have e : i = R * (i / R) := by have := Nat.div_add_mod i R; omega
  have e1 : ceilDiv i R = i / R := by
    unfold ceilDiv
    have h1 : (R - 1) / R = 0 := Nat.div_eq_of_lt (by omega)
    rw [show i + R - 1 = R * (i / R) + (R - 1) by omega, Nat.mul_add_div h, h1, Nat.add_zero]
  have e2 : ceilDiv (i + 1) R = i / R + 1 := by
    unfold ceilDiv
    rw [show i + 1 + R - 1 = i + R by omega, Nat.add_div_right _ h]
  rw [e1, e2]
  exact ⟨e.symm, rfl⟩
theorem ceil_miss {i R : Nat} (h : 0 < R) (h0 : i % R ≠ 0) : ceilDiv (i + 1) R = ceilDiv i R := by
  have hm := Nat.mod_lt i h
  have e := Nat.div_add_mod i R
  unfold ceilDiv
  rw [show i + 1 + R - 1 = i + R by omega, Nat.add_div_right _ h]
  have h1 : (i % R - 1) / R = 0 := Nat.div_eq_of_lt (by omega)
  rw [show i + R - 1 = R * (i / R) + (R + (i % R - 1)) by omega, Nat.mul_add_div h, Nat.add_div_left _ h, h1]
theorem ends_row {R : Nat} (hR : 0 < R) (l : List Row) : ∀ (i off : Nat) (last : List UInt8) (j x : Nat), (ends R i off last l)[j]? = some x →
    ∃ k, ∃ hk : k < l.length, i + k = R * (ceilDiv i R + j) ∧ off ≤ x ∧ x ≤ off + (enc R i last l).length ∧ ∃ rest, (enc R i last l).drop (x - off) = rowEnc l[k] [] ++ rest := by
  induction l with
  | nil => intro i off last j x h; simp [ends] at h
  | cons r l ih =>
    intro i off last j x h
    simp only [ends, enc] at h ⊢
    by_cases h0 : i % R = 0
    · simp only [if_pos h0] at h ⊢
      obtain ⟨c1, c2⟩ := ceil_hit hR h0
      cases j with
      | zero =>
        simp only [List.cons_append, List.nil_append, List.getElem?_cons_zero, Option.some.injEq] at h
        subst h
        exact ⟨0, by simp, by rw [Nat.add_zero, Nat.add_zero, c1], Nat.le_refl _, Nat.le_add_right _ _, _, by rw [Nat.sub_self, List.drop_zero]; rfl⟩
      | succ j =>
        simp only [List.cons_append, List.nil_append, List.getElem?_cons_succ] at h
        obtain ⟨k, hk, e1, e2, e3, rest, e4⟩ := ih _ _ _ _ _ h
        refine ⟨k + 1, by simpa using hk, ?_, by omega, by rw [List.length_append]; omega, rest, ?_⟩
        · rw [c2] at e1; rw [show i + (k + 1) = i + 1 + k by omega, e1, show ceilDiv i R + 1 + j = ceilDiv i R + (j + 1) by omega]
        · rw [show x - off = (rowEnc r []).length + (x - (off + (rowEnc r []).length)) by omega, ← List.drop_drop, List.drop_left]
          exact e4
    · simp only [if_neg h0, List.nil_append] at h ⊢
      obtain ⟨k, hk, e1, e2, e3, rest, e4⟩ := ih _ _ _ _ _ h
      refine ⟨k + 1, by simpa using hk, ?_, by omega, by rw [List.length_append]; omega, rest, ?_⟩
      · rw [ceil_miss hR h0] at e1; rw [show i + (k + 1) = i + 1 + k by omega, e1]
      · rw [show x - off = (rowEnc r last).length + (x - (off + (rowEnc r last).length)) by omega, ← List.drop_drop, List.drop_left]
        exact e4
/-- at a restart a row is read as it is -/
theorem read_restart {R : Nat} (hR : 0 < R) {l : List Row} (hc : ∀ r ∈ l, check r = 0) {j x : Nat} (h : (ends R 0 0 [] l)[j]? = some x) :
    ∃ hk : R * j < l.length, x ≤ (enc R 0 [] l).length ∧ ∃ n, read ((enc R 0 [] l).drop x) [] = some (l[R * j], n) := by
  obtain ⟨k, hk, e1, _, e3, rest, e4⟩ := ends_row hR l 0 0 [] j x h
  rw [ceil_zero hR, Nat.zero_add, Nat.zero_add] at e1
  subst e1
  rw [Nat.sub_zero] at e4
  exact ⟨hk, by omega, _, by rw [e4]; exact read_enc_any _ _ _ (hc _ (List.getElem_mem _))⟩
theorem fours_get (E : List Nat) (h : ∀ x ∈ E, x < 4294967296) (j : Nat) (rest : List UInt8) (hj : j < E.length) : unfour ((fours E ++ rest).drop (4 * j)) = E[j] := by
  induction E generalizing j with
  | nil => simp at hj
  | cons a E ih =>
    cases j with
    | zero =>
      simp only [fours, List.flatMap_cons, Nat.mul_zero, List.drop_zero, List.append_assoc, List.getElem_cons_zero]
      exact unfour_four (h a List.mem_cons_self) _
    | succ j =>
      have : (fours (a :: E) ++ rest).drop (4 * (j + 1)) = (fours E ++ rest).drop (4 * j) := by
        simp only [fours, List.flatMap_cons, List.append_assoc]
        rw [show 4 * (j + 1) = (four a).length + 4 * j by rw [four_length]; omega, ← List.drop_drop, List.drop_left]
      rw [this, List.getElem_cons_succ]
      exact ih (fun x hx => h x (List.mem_cons_of_mem _ hx)) j (by simpa using hj)
theorem restarts_whole {l : List Row} {R : Nat} (hR : 0 < R) (h : l.length ≤ 1024) (h2 : (whole l R).length ≤ 65536) : restarts (whole l R) = ends R 0 0 [] l := by
  obtain ⟨_, e2⟩ := whole_body l R h
  have hl := whole_length l R
  unfold restarts
  rw [e2, hl, show (enc R 0 [] l).length + 4 * (ends R 0 0 [] l).length + 8 - 8 - 4 * (ends R 0 0 [] l).length = (enc R 0 [] l).length by omega]
  have hb : ∀ x ∈ ends R 0 0 [] l, x < 4294967296 := fun x hx => by
    obtain ⟨j, hj, e⟩ := List.mem_iff_getElem.1 hx
    obtain ⟨_, _, _, _, e3, _⟩ := ends_row hR l 0 0 [] j x (by rw [List.getElem?_eq_getElem hj, e])
    omega
  have hw : whole l R = enc R 0 [] l ++ (fours (ends R 0 0 [] l) ++ (four (ends R 0 0 [] l).length ++ four R)) := by unfold whole; simp only [List.append_assoc]
  apply List.ext_getElem
  · rw [List.length_map, List.length_range]
  · intro j h1 h3
    rw [List.length_map, List.length_range] at h1
    rw [List.getElem_map, List.getElem_range, hw, ← List.drop_drop, List.drop_left]
    exact fours_get _ hb j _ h1
/-- rows that were read, and what they were built of -/
theorem rows_good {s : List UInt8} {l : List Row} (h : rows s = (l, 0)) : ∃ R : Nat, unfour (s.drop (s.length - 4)) = R ∧ 1 ≤ R ∧ R ≤ 64 ∧ order l = true ∧ (∀ r ∈ l, check r = 0) ∧ l.length ≤ 1024 ∧ s = whole l R ∧ s.length ≤ 65536 ∧ body s = enc R 0 [] l ∧ restarts s = ends R 0 0 [] l ∧
    ¬ (s.length < 8 ∨ 65536 < s.length ∨ (s.length - 8) / 4 < unfour (s.drop (s.length - 8))) := by
  obtain ⟨h1, h2, h3, h4, h5, h6, h7⟩ := build_ok (rows_ok h)
  refine ⟨_, rfl, by omega, by omega, h3, h4, h5, ?_⟩
  rw [Int.toNat_natCast] at h6
  generalize unfour (s.drop (s.length - 4)) = R at *
  subst h6
  obtain ⟨e1, e2⟩ := whole_body l R h5
  have hl := whole_length l R
  refine ⟨rfl, h7, e1, restarts_whole (by omega) h5 h7, ?_⟩
  rw [e2]
  omega
/-- a restart whose row is ahead of a place is ahead of it -/
theorem from_le {l : List Row} (ho : order l = true) {R j : Nat} {k : List UInt8} {s : Nat} (hk : R * j < l.length) (ha : ahead l[R * j] k s = true) : R * j ≤ place l k s :=
  Nat.le_of_lt ((place_iff ho k s hk).1 ha)
theorem seek_ok {s : List UInt8} {l : List Row} (h : rows s = (l, 0)) (k : List UInt8) (n : Nat) : seek s k n = (l.drop (place l k n), 0) := by
  unfold seek; rw [h]; rfl
theorem seek_err {s : List UInt8} (h : (rows s).2 ≠ 0) (k : List UInt8) (n : Nat) : seek s k n = ([], (rows s).2) := by
  unfold seek; rw [if_pos h]
end PBlock
