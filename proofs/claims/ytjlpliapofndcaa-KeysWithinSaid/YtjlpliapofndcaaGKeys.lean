/- The contracts of keys.Encode and keys.Range in the form in which the printed callers ask them. -/
import Derived.Test.YtjlpliapofndcaaKeysK
import Derived.Test.YtjlpliapofndcaaKeysS
namespace Go.Proofs.Ytjlpliapofndcaa.Print
open Go.RowKit
/-- a key's text, or what refuses it -/
def encOf (st gr : Int) (ky sp sb : ByteArray) : ByteArray × Int :=
  if st < 0 ∨ 64 ≤ st ∨ gr < 0 ∨ 64 ≤ gr then (⟨#[]⟩, 2) else if 64 < ky.size ∨ 64 < sp.size ∨ 64 < sb.size then (⟨#[]⟩, 3) else (Keys.headOf st gr ky sp ++ sb, 0)
def keys_Encode.f (a0_0 : Int) (a0_1 : Int) (a0_2 : ByteArray) (a0_3 : ByteArray) (a0_4 : ByteArray) : Option (ByteArray × Int) := some (encOf a0_0 a0_1 a0_2 a0_3 a0_4)
theorem keys_Encode.calls (a0_0 : Int) (a0_1 : Int) (a0_2 : ByteArray) (a0_3 : ByteArray) (a0_4 : ByteArray) (r1 : ByteArray) (r2 : Int) (w : World) (h : keys_Encode.f a0_0 a0_1 a0_2 a0_3 a0_4 = some (r1, r2)) :
    Calls Try.prog 14 #[.agg #[.int .i64 a0_0, .int .i64 a0_1, .string a0_2, .string a0_3, .string a0_4]] w fun e w' => e = .returned (.tuple #[.string r1, .int .i64 r2]) ∧ Below w.heap.size w w' := by
  have h := Option.some.inj h
  unfold encOf at h
  by_cases h1 : a0_0 < 0 ∨ 64 ≤ a0_0
  · rw [if_pos (by omega)] at h
    simp only [Prod.mk.injEq] at h
    obtain ⟨rfl, rfl⟩ := h
    exact Keys.encode_state a0_0 a0_1 a0_2 a0_3 a0_4 h1 w
  by_cases h2 : a0_1 < 0 ∨ 64 ≤ a0_1
  · rw [if_pos (by omega)] at h
    simp only [Prod.mk.injEq] at h
    obtain ⟨rfl, rfl⟩ := h
    exact Keys.encode_group a0_0 a0_1 a0_2 a0_3 a0_4 (by omega) (by omega) h2 w
  rw [if_neg (by omega)] at h
  refine (Keys.encode_rest a0_0 a0_1 a0_2 a0_3 a0_4 (by omega) (by omega) (by omega) (by omega) w).mono ?_
  rintro e w' ⟨⟨hb, rfl⟩ | ⟨hg, rfl⟩, hw⟩
  · rw [if_pos hb] at h
    simp only [Prod.mk.injEq] at h
    obtain ⟨rfl, rfl⟩ := h
    exact ⟨rfl, hw⟩
  · rw [if_neg (by omega)] at h
    simp only [Prod.mk.injEq] at h
    obtain ⟨rfl, rfl⟩ := h
    exact ⟨rfl, hw⟩
/-- where a range begins -/
def fromOf (st gr : Int) (ky sp : ByteArray) (p : Int) : ByteArray :=
  if p = 1 then strOfNums [st] else if p = 2 then strOfNums [st] ++ strOfNums [gr] else if p = 3 then strOfNums [st] ++ strOfNums [gr] ++ Keys.pt ky else strOfNums [st] ++ strOfNums [gr] ++ Keys.pt ky ++ Keys.pt sp
def rangeOf (st gr : Int) (ky sp : ByteArray) (p : Int) : ByteArray × ByteArray × Int :=
  if p < 1 ∨ 4 < p ∨ st < 0 ∨ 64 ≤ st ∨ (1 < p ∧ (gr < 0 ∨ 64 ≤ gr)) then (⟨#[]⟩, ⟨#[]⟩, 2) else if (2 < p ∧ 64 < ky.size) ∨ (3 < p ∧ 64 < sp.size) then (⟨#[]⟩, ⟨#[]⟩, 3) else (fromOf st gr ky sp p, Keys.nx (fromOf st gr ky sp p), 0)
def keys_Range.f (a0_0 : Int) (a0_1 : Int) (a0_2 : ByteArray) (a0_3 : ByteArray) (_a0_4 : ByteArray) (a1 : Int) : Option (ByteArray × ByteArray × Int) :=
  if -9223372036854775808 ≤ a1 ∧ a1 ≤ 9223372036854775807 then some (rangeOf a0_0 a0_1 a0_2 a0_3 a1) else none
theorem keys_Range.calls (a0_0 : Int) (a0_1 : Int) (a0_2 : ByteArray) (a0_3 : ByteArray) (a0_4 : ByteArray) (a1 : Int) (r1 : ByteArray) (r2 : ByteArray) (r3 : Int) (w : World) (h : keys_Range.f a0_0 a0_1 a0_2 a0_3 a0_4 a1 = some (r1, r2, r3)) :
    Calls Try.prog 21 #[.agg #[.int .i64 a0_0, .int .i64 a0_1, .string a0_2, .string a0_3, .string a0_4], .int .i64 a1] w fun e w' => e = .returned (.tuple #[.string r1, .string r2, .int .i64 r3]) ∧ Below w.heap.size w w' := by
  unfold keys_Range.f at h
  split at h
  case isFalse => cases h
  rename_i hi
  have h := Option.some.inj h
  unfold rangeOf at h
  by_cases h1 : a1 < 1 ∨ 4 < a1
  · rw [if_pos (by omega)] at h
    simp only [Prod.mk.injEq] at h
    obtain ⟨rfl, rfl, rfl⟩ := h
    exact Keys.range_parts a1 a0_0 a0_1 a0_2 a0_3 a0_4 hi.1 hi.2 h1 w
  have h2 : a1 = 1 ∨ a1 = 2 ∨ a1 = 3 ∨ a1 = 4 := by omega
  rcases h2 with rfl | rfl | rfl | rfl
  · refine (Keys.range_1 a0_0 a0_1 a0_2 a0_3 a0_4 w).mono ?_
    rintro e w' ⟨⟨r, ⟨hb, rfl⟩ | ⟨_, hb, _⟩, rfl⟩ | ⟨hg, rfl⟩, hw⟩
    · rw [if_pos (by omega)] at h
      simp only [Prod.mk.injEq] at h
      obtain ⟨rfl, rfl, rfl⟩ := h
      exact ⟨rfl, hw⟩
    · exact hb.elim
    · rw [if_neg (by omega), if_neg (by omega)] at h
      simp only [Prod.mk.injEq] at h
      obtain ⟨rfl, rfl, rfl⟩ := h
      exact ⟨rfl, hw⟩
  · refine (Keys.range_2 a0_0 a0_1 a0_2 a0_3 a0_4 w).mono ?_
    rintro e w' ⟨⟨r, ⟨hb, rfl⟩ | ⟨_, _, hb, _⟩, rfl⟩ | ⟨hg, rfl⟩, hw⟩
    · rw [if_pos (by omega)] at h
      simp only [Prod.mk.injEq] at h
      obtain ⟨rfl, rfl, rfl⟩ := h
      exact ⟨rfl, hw⟩
    · exact hb.elim
    · rw [if_neg (by omega), if_neg (by omega)] at h
      simp only [Prod.mk.injEq] at h
      obtain ⟨rfl, rfl, rfl⟩ := h
      exact ⟨rfl, hw⟩
  · refine (Keys.range_3 a0_0 a0_1 a0_2 a0_3 a0_4 w).mono ?_
    rintro e w' ⟨⟨r, ⟨hb, rfl⟩ | ⟨hs, hg, hb, rfl⟩, rfl⟩ | ⟨hg, rfl⟩, hw⟩
    · rw [if_pos (by omega)] at h
      simp only [Prod.mk.injEq] at h
      obtain ⟨rfl, rfl, rfl⟩ := h
      exact ⟨rfl, hw⟩
    · rw [if_neg (by omega), if_pos (by omega)] at h
      simp only [Prod.mk.injEq] at h
      obtain ⟨rfl, rfl, rfl⟩ := h
      exact ⟨rfl, hw⟩
    · rw [if_neg (by omega), if_neg (by omega)] at h
      simp only [Prod.mk.injEq] at h
      obtain ⟨rfl, rfl, rfl⟩ := h
      exact ⟨rfl, hw⟩
  · refine (Keys.range_4 a0_0 a0_1 a0_2 a0_3 a0_4 w).mono ?_
    rintro e w' ⟨⟨r, ⟨hb, rfl⟩ | ⟨hs, hg, hb, rfl⟩, rfl⟩ | ⟨hg, rfl⟩, hw⟩
    · rw [if_pos (by omega)] at h
      simp only [Prod.mk.injEq] at h
      obtain ⟨rfl, rfl, rfl⟩ := h
      exact ⟨rfl, hw⟩
    · rw [if_neg (by omega), if_pos (by omega)] at h
      simp only [Prod.mk.injEq] at h
      obtain ⟨rfl, rfl, rfl⟩ := h
      exact ⟨rfl, hw⟩
    · rw [if_neg (by omega), if_neg (by omega)] at h
      simp only [Prod.mk.injEq] at h
      obtain ⟨rfl, rfl, rfl⟩ := h
      exact ⟨rfl, hw⟩
end Go.Proofs.Ytjlpliapofndcaa.Print
