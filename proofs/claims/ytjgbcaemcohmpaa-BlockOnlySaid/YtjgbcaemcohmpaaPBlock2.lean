/- Plain theory (PBlock2), without any program. -/
import Derived.Test.YtjgbcaemcohmpaaPBlock
namespace PBlock
open PCode
/-- the key behind which the next row is written -/
def lastOf : List UInt8 → List Row → List UInt8
  | k, [] => k
  | _, r :: l => lastOf r.key l
theorem lastOf_snoc (k : List UInt8) (l : List Row) (r : Row) : lastOf k (l ++ [r]) = r.key := by
  induction l generalizing k with
  | nil => rfl
  | cons a l ih => exact ih a.key
theorem enc_snoc (restart : Nat) (l : List Row) (r : Row) : ∀ (k : Nat) (last : List UInt8), enc restart k last (l ++ [r]) = enc restart k last l ++ rowEnc r (if (k + l.length) % restart = 0 then [] else lastOf last l) := by
  induction l with
  | nil => intro k last; simp [enc, lastOf]
  | cons a l ih =>
    intro k last
    simp only [List.cons_append, enc, ih (k + 1) a.key, lastOf, List.append_assoc, List.length_cons]
    rw [show k + 1 + l.length = k + (l.length + 1) by omega]
theorem ends_snoc (restart : Nat) (l : List Row) (r : Row) : ∀ (k off : Nat) (last : List UInt8), ends restart k off last (l ++ [r]) = ends restart k off last l ++ (if (k + l.length) % restart = 0 then [off + (enc restart k last l).length] else []) := by
  induction l with
  | nil => intro k off last; simp [enc, ends]
  | cons a l ih =>
    intro k off last
    simp only [List.cons_append, enc, ends, ih (k + 1) _ a.key, List.append_assoc, List.length_cons, List.length_append]
    rw [show k + 1 + l.length = k + (l.length + 1) by omega]
    congr 2
    split
    · rw [show off + (rowEnc a (if k % restart = 0 then [] else last)).length + (enc restart (k + 1) a.key l).length = off + ((rowEnc a (if k % restart = 0 then [] else last)).length + (enc restart (k + 1) a.key l).length) by omega]
    · rfl
theorem fours_append (a b : List Nat) : fours (a ++ b) = fours a ++ fours b := by simp [fours]
/-- a row is not long -/
theorem rowEnc_le (r : Row) (last : List UInt8) (h : check r = 0) : (rowEnc r last).length ≤ 3000 := by
  obtain ⟨_, _, _, h1, h2, h3, h4⟩ := check_ok h
  have hc := common_le last r.key
  have hd : (r.key.drop (common last r.key)).length ≤ 520 := by rw [List.length_drop]; omega
  have a := putUint_length_ten (n := common last r.key) (by omega)
  have b := putUint_length_ten (n := (r.key.drop (common last r.key)).length) (by omega)
  have c := putUint_length_ten (n := r.seq) (by omega)
  have d := putUint_length_ten (n := r.value.length) (by omega)
  have e : (if r.kind = 1 then putField r.value else []).length ≤ 2058 := by
    split
    · unfold putField; rw [List.length_append]; omega
    · simp
  unfold rowEnc
  unfold putField at *
  simp only [List.length_append, List.length_cons, List.length_nil] at *
  omega
theorem enc_mono (restart : Nat) (l m : List Row) (k : Nat) (last : List UInt8) : (enc restart k last l).length ≤ (enc restart k last (l ++ m)).length := by
  obtain ⟨x, hx, _⟩ := enc_append restart l m k last
  rw [hx, List.length_append]; exact Nat.le_add_right _ _
theorem enc_take_le (restart : Nat) (l : List Row) (n k : Nat) (last : List UInt8) : (enc restart k last (l.take n)).length ≤ (enc restart k last l).length := by
  have := enc_mono restart (l.take n) (l.drop n) k last
  rwa [List.take_append_drop] at this
/-- what a block has when one of its parts is too long -/
theorem build_far {l : List Row} {restart : Int} (h : ¬ (restart < 1 ∨ 64 < restart ∨ order l = false ∨ ∃ r ∈ l, check r = 2)) {n : Nat} (h2 : 65536 < (enc restart.toNat 0 [] (l.take n)).length) : build l restart = ([], 3) := by
  have h3 := enc_take_le restart.toNat l n 0 []
  have h4 := whole_length l restart.toNat
  have h5 : 65536 < (whole l restart.toNat).length := by omega
  unfold build
  rw [if_neg h, if_pos (.inr (.inr h5))]
/-! read, case by case -/
section
variable {s last K V : List UInt8} {sh n1 e1 m1 e2 q m2 e3 k e4 : Nat}
theorem read_a (hu : uint s = (sh, n1, e1)) (h : e1 ≠ 0 ∨ last.length < sh) : read s last = none := by
  unfold read; simp only [hu]; rw [if_pos h]
theorem read_b (hu : uint s = (sh, n1, 0)) (h1 : sh ≤ last.length) (hf : field (s.drop n1) 520 = (K, m1, e2)) (h : e2 ≠ 0) : read s last = none := by
  unfold read; simp only [hu, hf]; rw [if_neg (by omega), if_pos h]
theorem read_c (hu : uint s = (sh, n1, 0)) (h1 : sh ≤ last.length) (hf : field (s.drop n1) 520 = (K, m1, 0)) (hv : uint (s.drop (n1 + m1)) = (q, m2, e3)) (h : e3 ≠ 0 ∨ n1 + m1 + m2 = s.length) : read s last = none := by
  unfold read; simp only [hu, hf, hv]; rw [if_neg (by omega), if_neg (by omega), if_pos h]
theorem read_d (hu : uint s = (sh, n1, 0)) (h1 : sh ≤ last.length) (hf : field (s.drop n1) 520 = (K, m1, 0)) (hv : uint (s.drop (n1 + m1)) = (q, m2, 0)) (h : n1 + m1 + m2 ≠ s.length) (hc : s.getD (n1 + m1 + m2) 0 ≠ 1) :
    read s last = some (⟨last.take sh ++ K, q, ((s.getD (n1 + m1 + m2) 0).toNat : Int), []⟩, n1 + m1 + m2 + 1) := by
  unfold read; simp only [hu, hf, hv]; rw [if_neg (by omega), if_neg (by omega), if_neg (by omega), if_neg hc]
theorem read_e (hu : uint s = (sh, n1, 0)) (h1 : sh ≤ last.length) (hf : field (s.drop n1) 520 = (K, m1, 0)) (hv : uint (s.drop (n1 + m1)) = (q, m2, 0)) (h : n1 + m1 + m2 ≠ s.length) (hc : s.getD (n1 + m1 + m2) 0 = 1)
    (hg : field (s.drop (n1 + m1 + m2 + 1)) 2048 = (V, k, e4)) (h4 : e4 ≠ 0) : read s last = none := by
  unfold read; simp only [hu, hf, hv, hg]; rw [if_neg (by omega), if_neg (by omega), if_neg (by omega), if_pos hc, if_pos h4]
theorem read_f (hu : uint s = (sh, n1, 0)) (h1 : sh ≤ last.length) (hf : field (s.drop n1) 520 = (K, m1, 0)) (hv : uint (s.drop (n1 + m1)) = (q, m2, 0)) (h : n1 + m1 + m2 ≠ s.length) (hc : s.getD (n1 + m1 + m2) 0 = 1)
    (hg : field (s.drop (n1 + m1 + m2 + 1)) 2048 = (V, k, 0)) : read s last = some (⟨last.take sh ++ K, q, 1, V⟩, n1 + m1 + m2 + 1 + k) := by
  unfold read; simp only [hu, hf, hv, hg]; rw [if_neg (by omega), if_neg (by omega), if_neg (by omega), if_pos hc, if_neg (by simp)]
end
theorem read_bounds {s last : List UInt8} {r : Row} {n : Nat} (h : read s last = some (r, n)) : 1 ≤ n ∧ n ≤ s.length ∧ r.seq < 18446744073709551616 ∧ r.key.length ≤ last.length + 520 ∧ r.value.length ≤ 2048 := by
  obtain ⟨⟨sh, n1, e1⟩, hu⟩ : ∃ x, uint s = x := ⟨_, rfl⟩
  by_cases h1 : e1 ≠ 0 ∨ last.length < sh
  · rw [read_a hu h1] at h; cases h
  obtain rfl : e1 = 0 := by omega
  obtain ⟨⟨K, m1, e2⟩, hf⟩ : ∃ x, field (s.drop n1) 520 = x := ⟨_, rfl⟩
  by_cases h2 : e2 = 0
  case neg => rw [read_b hu (by omega) hf h2] at h; cases h
  subst h2
  obtain ⟨⟨q, m2, e3⟩, hv⟩ : ∃ x, uint (s.drop (n1 + m1)) = x := ⟨_, rfl⟩
  have u1 := uint_ok hu
  have f1 := field_ok hf
  rw [List.length_drop] at f1
  by_cases h3 : e3 ≠ 0 ∨ n1 + m1 + m2 = s.length
  · rw [read_c hu (by omega) hf hv h3] at h; cases h
  obtain rfl : e3 = 0 := by omega
  have u2 := uint_ok hv
  rw [List.length_drop] at u2
  by_cases hc : s.getD (n1 + m1 + m2) 0 = 1
  · obtain ⟨⟨V, k, e4⟩, hg⟩ : ∃ x, field (s.drop (n1 + m1 + m2 + 1)) 2048 = x := ⟨_, rfl⟩
    by_cases h4 : e4 = 0
    case neg => rw [read_e hu (by omega) hf hv (by omega) hc hg h4] at h; cases h
    subst h4
    rw [read_f hu (by omega) hf hv (by omega) hc hg] at h
    have f2 := field_ok hg
    rw [List.length_drop] at f2
    simp only [Option.some.injEq, Prod.mk.injEq] at h
    obtain ⟨rfl, rfl⟩ := h
    refine ⟨by omega, by omega, u2.2.2.2, ?_, by show V.length ≤ 2048; omega⟩
    show (last.take sh ++ K).length ≤ _
    rw [List.length_append, List.length_take]; omega
  · rw [read_d hu (by omega) hf hv (by omega) hc] at h
    simp only [Option.some.injEq, Prod.mk.injEq] at h
    obtain ⟨rfl, rfl⟩ := h
    refine ⟨by omega, by omega, u2.2.2.2, ?_, Nat.zero_le _⟩
    show (last.take sh ++ K).length ≤ _
    rw [List.length_append, List.length_take]; omega
/-- where the restarts lie -/
def restarts (s : List UInt8) : List Nat := (List.range (unfour (s.drop (s.length - 8)))).map fun j => unfour (s.drop (s.length - 8 - 4 * unfour (s.drop (s.length - 8)) + 4 * j))
theorem unfour_lt (l : List UInt8) : unfour l < 4294967296 := by
  have h := fun c : UInt8 => c.toNat_lt
  have a := h (l.getD 0 0)
  have b := h (l.getD 1 0)
  have c := h (l.getD 2 0)
  have d := h (l.getD 3 0)
  unfold unfour
  omega
theorem rows_of {s : List UInt8} (h : ¬ (s.length < 8 ∨ 65536 < s.length ∨ (s.length - 8) / 4 < unfour (s.drop (s.length - 8)))) :
    rows s = match decode (s.length + 1) (body s) [] 0 with | none => ([], 7) | some l => if build l (unfour (s.drop (s.length - 4)) : Int) = (s, 0) then (l, 0) else ([], 7) := by
  unfold rows; rw [if_neg h]; rfl
theorem rows_some {s : List UInt8} (h : ¬ (s.length < 8 ∨ 65536 < s.length ∨ (s.length - 8) / 4 < unfour (s.drop (s.length - 8)))) {l : List Row} (hd : decode (s.length + 1) (body s) [] 0 = some l) :
    rows s = if build l (unfour (s.drop (s.length - 4)) : Int) = (s, 0) then (l, 0) else ([], 7) := by
  rw [rows_of h, hd]
theorem rows_none {s : List UInt8} (h : ¬ (s.length < 8 ∨ 65536 < s.length ∨ (s.length - 8) / 4 < unfour (s.drop (s.length - 8)))) (hd : decode (s.length + 1) (body s) [] 0 = none) : rows s = ([], 7) := by
  rw [rows_of h, hd]
theorem rows_bad {s : List UInt8} (h : s.length < 8 ∨ 65536 < s.length ∨ (s.length - 8) / 4 < unfour (s.drop (s.length - 8))) : rows s = ([], 7) := by
  unfold rows; rw [if_pos h]
theorem decode_go {fuel : Nat} {b last : List UInt8} {hv : Nat} (h : b ≠ []) {r : Row} {n : Nat} (hr : read b last = some (r, n)) (h1 : hv ≠ 1024) : decode (fuel + 1) b last hv = (decode fuel (b.drop n) r.key (hv + 1)).map (r :: ·) := by
  rw [decode, if_neg h, hr]; simp only; rw [if_neg h1]
theorem decode_bad {fuel : Nat} {b last : List UInt8} {hv : Nat} (h : b ≠ []) (hr : read b last = none) : decode (fuel + 1) b last hv = none := by
  rw [decode, if_neg h, hr]
theorem decode_many {fuel : Nat} {b last : List UInt8} {hv : Nat} (h : b ≠ []) {r : Row} {n : Nat} (hr : read b last = some (r, n)) (h1 : hv = 1024) : decode (fuel + 1) b last hv = none := by
  rw [decode, if_neg h, hr]; simp only; rw [if_pos h1]
theorem decode_end {fuel : Nat} {last : List UInt8} {hv : Nat} : decode (fuel + 1) [] last hv = some [] := by rw [decode, if_pos rfl]
end PBlock
