/- Texts of this claim, joined by a program of this session (wip/pack.py): PCode, PBlock, PBlock2. -/
import GoSem.Op.String
-- PCode
namespace PCode
def putUint (n : Nat) : List UInt8 :=
  if n < 128 then [UInt8.ofNat n] else UInt8.ofNat (n % 128 + 128) :: putUint (n / 128)
  termination_by n
theorem putUint_small {n : Nat} (h : n < 128) : putUint n = [UInt8.ofNat n] := by rw [putUint, if_pos h]
theorem putUint_big {n : Nat} (h : ¬ n < 128) : putUint n = UInt8.ofNat (n % 128 + 128) :: putUint (n / 128) := by rw [putUint, if_neg h]
theorem putUint_pos (n : Nat) : 0 < (putUint n).length := by rw [putUint]; split <;> simp
theorem putUint_length_le (k : Nat) : ∀ n : Nat, n < 128 ^ k → 0 < k → (putUint n).length ≤ k := by
  induction k with
  | zero => intro n h h0; omega
  | succ k ih =>
    intro n h _
    rw [putUint]
    split
    · simp
    · rename_i hn
      have hk : 0 < k := by
        rcases Nat.eq_zero_or_pos k with h0 | h0
        · subst h0; simp at h; omega
        · exact h0
      have := ih (n / 128) (by rw [Nat.div_lt_iff_lt_mul (by omega)]; rw [Nat.pow_succ] at h; exact h) hk
      simp only [List.length_cons]; omega
theorem putUint_length_ten {n : Nat} (h : n < 18446744073709551616) : (putUint n).length ≤ 10 := putUint_length_le 10 n (by omega) (by omega)
/-- number, size, error: 0 none, 6 too short, 7 ill formed -/
def uintAt : Nat → List UInt8 → Nat × Nat × Nat
  | _, [] => (0, 0, 6)
  | k, c :: l =>
    if k = 9 ∧ 1 < c.toNat then (0, 0, 7)
    else if c.toNat < 128 then (if c.toNat = 0 ∧ 0 < k then (0, 0, 7) else (c.toNat, 1, 0))
    else if (uintAt (k + 1) l).2.2 = 0 then ((uintAt (k + 1) l).1 * 128 + (c.toNat - 128), (uintAt (k + 1) l).2.1 + 1, 0) else (0, 0, (uintAt (k + 1) l).2.2)
def uint (l : List UInt8) : Nat × Nat × Nat := uintAt 0 l
theorem uintAt_err (k : Nat) (l : List UInt8) : (uintAt k l).2.2 = 0 ∨ uintAt k l = (0, 0, 6) ∨ uintAt k l = (0, 0, 7) := by
  induction l generalizing k with
  | nil => right; left; rfl
  | cons c l ih =>
    unfold uintAt
    split
    · right; right; rfl
    · split
      · split
        · right; right; rfl
        · left; rfl
      · split
        · left; rfl
        · rename_i h
          rcases ih (k + 1) with h1 | h1 | h1
          · exact absurd h1 h
          · right; left; rw [h1]
          · right; right; rw [h1]
theorem uintAt_ok (l : List UInt8) : ∀ (k n s : Nat), uintAt k l = (n, s, 0) → k < 10 →
    putUint n = l.take s ∧ 1 ≤ s ∧ s ≤ l.length ∧ n * 128 ^ k < 18446744073709551616 ∧ (0 < k → 0 < n) := by
  induction l with
  | nil => intro k n s h; simp [uintAt] at h
  | cons c l ih =>
    intro k n s h hk
    have hc := c.toNat_lt
    unfold uintAt at h
    split at h
    · simp at h
    · rename_i h9
      split at h
      · rename_i h128
        split at h
        · simp at h
        · rename_i hz
          simp only [Prod.mk.injEq, and_true] at h
          obtain ⟨rfl, rfl⟩ := h
          refine ⟨by rw [putUint_small h128]; simp, by omega, by simp, ?_, by omega⟩
          have hp : 128 ^ k ≤ 128 ^ 9 := Nat.pow_le_pow_right (by omega) (by omega)
          by_cases e : k = 9
          · subst e; omega
          · have hp : 128 ^ k ≤ 128 ^ 8 := Nat.pow_le_pow_right (by omega) (by omega)
            refine Nat.lt_of_le_of_lt (Nat.mul_le_mul (show c.toNat ≤ 127 by omega) hp) (by omega)
      · rename_i h128
        split at h
        · rename_i he
          have hk9 : k ≠ 9 := by omega
          obtain ⟨a, b, d, f, g⟩ := ih (k + 1) (uintAt (k + 1) l).1 (uintAt (k + 1) l).2.1 (by rw [← he]) (by omega)
          simp only [Prod.mk.injEq, and_true] at h
          obtain ⟨rfl, rfl⟩ := h
          generalize (uintAt (k + 1) l).1 = m at *
          generalize (uintAt (k + 1) l).2.1 = t at *
          have hm := g (by omega)
          refine ⟨?_, by omega, by simpa using d, ?_, by omega⟩
          · rw [putUint_big (by omega), show (m * 128 + (c.toNat - 128)) / 128 = m by omega, show (m * 128 + (c.toNat - 128)) % 128 + 128 = c.toNat by omega, a]
            simp
          · rw [Nat.pow_succ] at f
            have hk8 : k ≤ 8 := by omega
            have e9 : (18446744073709551616 : Nat) = 128 ^ k * (128 ^ (8 - k) * 256) := by
              rw [← Nat.mul_assoc, ← Nat.pow_add, show k + (8 - k) = 8 by omega]
            rw [e9] at f ⊢
            have hp : 0 < 128 ^ k := Nat.pow_pos (by omega)
            have f2 : m * 128 < 128 ^ (8 - k) * 256 := by
              refine Nat.lt_of_mul_lt_mul_left (a := 128 ^ k) ?_
              rw [Nat.mul_comm (128 ^ k) (m * 128), Nat.mul_assoc, Nat.mul_comm 128]
              exact f
            rw [Nat.mul_comm]
            refine Nat.mul_lt_mul_of_pos_left ?_ hp
            have hd : 128 ^ (8 - k) * 256 = 128 * (128 ^ (8 - k) * 2) := by omega
            omega
        · rename_i he
          simp only [Prod.mk.injEq] at h
          exact absurd h.2.2 he
theorem uint_ok {l : List UInt8} {n s : Nat} (h : uint l = (n, s, 0)) : putUint n = l.take s ∧ 1 ≤ s ∧ s ≤ l.length ∧ n < 18446744073709551616 := by
  obtain ⟨a, b, c, d, _⟩ := uintAt_ok l 0 n s h (by omega)
  exact ⟨a, b, c, by simpa using d⟩
/-- the k low bytes of u, the highest first -/
def be : Nat → Nat → List UInt8
  | 0, _ => []
  | k + 1, u => be k (u / 256) ++ [UInt8.ofNat (u % 256)]
abbrev lt := Go.Op.bytesLess
theorem lt_cons (a b : UInt8) (x y : List UInt8) : lt (a :: x) (b :: y) = (decide (a < b) || (a == b && lt x y)) := rfl
theorem lt_irrefl (x : List UInt8) : lt x x = false := by
  induction x with
  | nil => rfl
  | cons a x ih => rw [lt_cons, ih]; simp

def putField (t : List UInt8) : List UInt8 := putUint t.length ++ t
/-- text, size, error: 3: too long -/
def field (l : List UInt8) (most : Int) : List UInt8 × Nat × Nat :=
  if (uint l).2.2 ≠ 0 then ([], 0, (uint l).2.2)
  else if most < 0 ∨ most < ((uint l).1 : Int) then ([], 0, 3)
  else if l.length - (uint l).2.1 < (uint l).1 then ([], 0, 6)
  else ((l.drop (uint l).2.1).take (uint l).1, (uint l).2.1 + (uint l).1, 0)
theorem field_ok {l t : List UInt8} {most : Int} {s : Nat} (h : field l most = (t, s, 0)) : putField t = l.take s ∧ 1 ≤ s ∧ s ≤ l.length ∧ (t.length : Int) ≤ most := by
  unfold field at h
  split at h
  · rename_i e
    simp only [Prod.mk.injEq] at h
    exact absurd h.2.2 e
  · rename_i e
    have e : (uint l).2.2 = 0 := by simpa using e
    split at h
    · simp at h
    · rename_i hm
      split at h
      · simp at h
      · rename_i hl
        obtain ⟨a, b, c, d⟩ := uint_ok (l := l) (n := (uint l).1) (s := (uint l).2.1) (by rw [← e])
        simp only [Prod.mk.injEq, and_true] at h
        obtain ⟨rfl, rfl⟩ := h
        have hlen : ((l.drop (uint l).2.1).take (uint l).1).length = (uint l).1 := by simp; omega
        refine ⟨?_, by omega, by omega, by rw [hlen]; omega⟩
        unfold putField
        rw [hlen, a, List.take_add]
end PCode
-- PBlock
namespace PBlock
open PCode
structure Row where
  key : List UInt8
  seq : Nat
  kind : Int
  value : List UInt8
def check (r : Row) : Nat :=
  if (r.kind ≠ 1 ∧ r.kind ≠ 2) ∨ r.key = [] ∨ (r.kind = 2 ∧ r.value ≠ []) ∨ r.seq = 0 ∨ 72057594037927935 < r.seq then 2
  else if 520 < r.key.length ∨ 2048 < r.value.length then 3 else 0
theorem check_ok {r : Row} (h : check r = 0) : (r.kind = 1 ∨ r.kind = 2) ∧ r.key ≠ [] ∧ (r.kind = 2 → r.value = []) ∧ 0 < r.seq ∧ r.seq ≤ 72057594037927935 ∧ r.key.length ≤ 520 ∧ r.value.length ≤ 2048 := by
  unfold check at h
  split at h
  · omega
  · rename_i h1
    split at h
    · omega
    · rename_i h2
      refine ⟨by omega, fun e => h1 (.inr (.inl e)), fun e => ?_, by omega, by omega, by omega, by omega⟩
      exact Classical.byContradiction fun f => h1 (.inr (.inr (.inl ⟨e, f⟩)))
def ahead (r : Row) (key : List UInt8) (seq : Nat) : Bool := lt r.key key || (r.key == key && decide (seq < r.seq))
def order : List Row → Bool
  | a :: b :: l => ahead a b.key b.seq && order (b :: l)
  | _ => true
def common : List UInt8 → List UInt8 → Nat
  | a :: x, b :: y => if a = b then common x y + 1 else 0
  | _, _ => 0
theorem common_le : ∀ (x y : List UInt8), common x y ≤ x.length ∧ common x y ≤ y.length
  | [], _ => by simp [common]
  | _ :: _, [] => by simp [common]
  | a :: x, b :: y => by
    unfold common
    split
    · have := common_le x y; simp; omega
    · simp
def rowEnc (r : Row) (last : List UInt8) : List UInt8 :=
  putUint (common last r.key) ++ putField (r.key.drop (common last r.key)) ++ putUint r.seq ++ [UInt8.ofNat (r.kind % 256).toNat] ++ (if r.kind = 1 then putField r.value else [])
/-- a row and how many bytes it has -/
def read (s last : List UInt8) : Option (Row × Nat) :=
  if (uint s).2.2 ≠ 0 ∨ last.length < (uint s).1 then none
  else if (field (s.drop (uint s).2.1) 520).2.2 ≠ 0 then none
  else if (uint (s.drop ((uint s).2.1 + (field (s.drop (uint s).2.1) 520).2.1))).2.2 ≠ 0 ∨ (uint s).2.1 + (field (s.drop (uint s).2.1) 520).2.1 + (uint (s.drop ((uint s).2.1 + (field (s.drop (uint s).2.1) 520).2.1))).2.1 = s.length then none
  else
    let n := (uint s).2.1 + (field (s.drop (uint s).2.1) 520).2.1 + (uint (s.drop ((uint s).2.1 + (field (s.drop (uint s).2.1) 520).2.1))).2.1
    let key := last.take (uint s).1 ++ (field (s.drop (uint s).2.1) 520).1
    let seq := (uint (s.drop ((uint s).2.1 + (field (s.drop (uint s).2.1) 520).2.1))).1
    if (s.getD n 0) = 1 then
      if (field (s.drop (n + 1)) 2048).2.2 ≠ 0 then none
      else some (⟨key, seq, 1, (field (s.drop (n + 1)) 2048).1⟩, n + 1 + (field (s.drop (n + 1)) 2048).2.1)
    else some (⟨key, seq, ((s.getD n 0).toNat : Int), []⟩, n + 1)
theorem rowEnc_pos (r : Row) (last : List UInt8) : 4 ≤ (rowEnc r last).length := by
  have a := putUint_pos (common last r.key)
  have b := putUint_pos (r.key.drop (common last r.key)).length
  have c := putUint_pos r.seq
  unfold rowEnc putField
  simp only [List.length_append, List.length_cons, List.length_nil]
  omega
def enc (restart : Nat) : Nat → List UInt8 → List Row → List UInt8
  | _, _, [] => []
  | i, last, r :: l => rowEnc r (if i % restart = 0 then [] else last) ++ enc restart (i + 1) r.key l
/-- where the restarts begin -/
def ends (restart : Nat) : Nat → Nat → List UInt8 → List Row → List Nat
  | _, _, _, [] => []
  | i, off, last, r :: l => (if i % restart = 0 then [off] else []) ++ ends restart (i + 1) (off + (rowEnc r (if i % restart = 0 then [] else last)).length) r.key l
def four (n : Nat) : List UInt8 := [UInt8.ofNat (n % 256), UInt8.ofNat (n / 256 % 256), UInt8.ofNat (n / 65536 % 256), UInt8.ofNat (n / 16777216 % 256)]
def unfour (l : List UInt8) : Nat := (l.getD 0 0).toNat + 256 * (l.getD 1 0).toNat + 65536 * (l.getD 2 0).toNat + 16777216 * (l.getD 3 0).toNat
theorem four_length (n : Nat) : (four n).length = 4 := rfl
def fours (l : List Nat) : List UInt8 := l.flatMap four
theorem fours_length (l : List Nat) : (fours l).length = 4 * l.length := by
  induction l with
  | nil => rfl
  | cons a l ih => simp only [fours, List.flatMap_cons, List.length_append, List.length_cons, four_length] at *; omega
def whole (l : List Row) (restart : Nat) : List UInt8 := enc restart 0 [] l ++ fours (ends restart 0 0 [] l) ++ four (ends restart 0 0 [] l).length ++ four restart
/-- bytes and error -/
def build (l : List Row) (restart : Int) : List UInt8 × Nat :=
  if restart < 1 ∨ 64 < restart ∨ order l = false ∨ (∃ r ∈ l, check r = 2) then ([], 2)
  else if 1024 < l.length ∨ (∃ r ∈ l, check r = 3) ∨ 65536 < (whole l restart.toNat).length then ([], 3)
  else (whole l restart.toNat, 0)
theorem build_of {l : List Row} {restart : Int} (h1 : 1 ≤ restart) (h2 : restart ≤ 64) (h3 : order l = true) (h4 : ∀ r ∈ l, check r = 0) (h5 : l.length ≤ 1024) (h6 : (whole l restart.toNat).length ≤ 65536) : build l restart = (whole l restart.toNat, 0) := by
  unfold build
  rw [if_neg, if_neg]
  · rintro (h | ⟨r, hr, h⟩ | h)
    · omega
    · rw [h4 r hr] at h; omega
    · omega
  · rintro (h | h | h | ⟨r, hr, h⟩)
    · omega
    · omega
    · rw [h3] at h; cases h
    · rw [h4 r hr] at h; omega
/-- rows of bytes, behind some that were read; none: ill formed -/
def decode : Nat → List UInt8 → List UInt8 → Nat → Option (List Row)
  | 0, _, _, _ => none
  | fuel + 1, body, last, have_ =>
    if body = [] then some []
    else match read body last with
      | none => none
      | some (r, n) => if have_ = 1024 then none else (decode fuel (body.drop n) r.key (have_ + 1)).map (r :: ·)
/-- bytes that end in what is told, read as rows -/
def body (s : List UInt8) : List UInt8 := s.take (s.length - 8 - 4 * unfour (s.drop (s.length - 8)))
def rows (s : List UInt8) : List Row × Nat :=
  if s.length < 8 ∨ 65536 < s.length ∨ (s.length - 8) / 4 < unfour (s.drop (s.length - 8)) then ([], 7)
  else match decode (s.length + 1) (body s) [] 0 with
    | none => ([], 7)
    | some l => if build l (unfour (s.drop (s.length - 4)) : Int) = (s, 0) then (l, 0) else ([], 7)

theorem enc_length_le (restart : Nat) (l : List Row) : ∀ (i : Nat) (last : List UInt8), l.length ≤ (enc restart i last l).length := by
  induction l with
  | nil => intro i last; simp [enc]
  | cons r l ih =>
    intro i last
    have := ih (i + 1) r.key
    have := rowEnc_pos r (if i % restart = 0 then [] else last)
    simp only [enc, List.length_append, List.length_cons]
    omega
theorem ends_length_le (restart : Nat) (l : List Row) : ∀ (i off : Nat) (last : List UInt8), (ends restart i off last l).length ≤ l.length := by
  induction l with
  | nil => intro i off last; simp [ends]
  | cons r l ih =>
    intro i off last
    have := ih (i + 1) (off + (rowEnc r (if i % restart = 0 then [] else last)).length) r.key
    have h2 : (if i % restart = 0 then [off] else []).length ≤ 1 := by split <;> simp
    simp only [ends, List.length_append, List.length_cons]
    omega
theorem whole_length (l : List Row) (restart : Nat) : (whole l restart).length = (enc restart 0 [] l).length + 4 * (ends restart 0 0 [] l).length + 8 := by
  unfold whole
  simp only [List.length_append, fours_length, four_length]
theorem enc_append (restart : Nat) (l m : List Row) : ∀ (i : Nat) (last : List UInt8), ∃ x, enc restart i last (l ++ m) = enc restart i last l ++ x ∧ m.length ≤ x.length := by
  induction l with
  | nil => intro i last; exact ⟨_, rfl, enc_length_le restart m i last⟩
  | cons r l ih =>
    intro i last
    obtain ⟨x, hx, hm⟩ := ih (i + 1) r.key
    exact ⟨x, by simp only [List.cons_append, enc]; rw [hx, List.append_assoc], hm⟩
end PBlock
-- PBlock2
namespace PBlock
open PCode
/-- the key behind which the next row is written -/
def lastOf : List UInt8 → List Row → List UInt8
  | k, [] => k
  | _, r :: l => lastOf r.key l
theorem lastOf_snoc (k : List UInt8) (l : List Row) (r : Row) : lastOf k (l ++ [r]) = r.key := by
  induction l generalizing k with
  | nil => rfl
  | cons a l ih => exact ih a.key
theorem enc_snoc (restart : Nat) (l : List Row) (r : Row) : ∀ (k : Nat) (last : List UInt8), enc restart k last (l ++ [r]) = enc restart k last l ++ rowEnc r (if (k + l.length) % restart = 0 then [] else lastOf last l) := by
  induction l with
  | nil => intro k last; simp [enc, lastOf]
  | cons a l ih =>
    intro k last
    simp only [List.cons_append, enc, ih (k + 1) a.key, lastOf, List.append_assoc, List.length_cons]
    rw [show k + 1 + l.length = k + (l.length + 1) by omega]
theorem ends_snoc (restart : Nat) (l : List Row) (r : Row) : ∀ (k off : Nat) (last : List UInt8), ends restart k off last (l ++ [r]) = ends restart k off last l ++ (if (k + l.length) % restart = 0 then [off + (enc restart k last l).length] else []) := by
  induction l with
  | nil => intro k off last; simp [enc, ends]
  | cons a l ih =>
    intro k off last
    simp only [List.cons_append, enc, ends, ih (k + 1) _ a.key, List.append_assoc, List.length_cons, List.length_append]
    rw [show k + 1 + l.length = k + (l.length + 1) by omega]
    congr 2
    split
    · rw [show off + (rowEnc a (if k % restart = 0 then [] else last)).length + (enc restart (k + 1) a.key l).length = off + ((rowEnc a (if k % restart = 0 then [] else last)).length + (enc restart (k + 1) a.key l).length) by omega]
    · rfl
theorem fours_append (a b : List Nat) : fours (a ++ b) = fours a ++ fours b := by simp [fours]
/-- a row is not long -/
theorem rowEnc_le (r : Row) (last : List UInt8) (h : check r = 0) : (rowEnc r last).length ≤ 3000 := by
  obtain ⟨_, _, _, h1, h2, h3, h4⟩ := check_ok h
  have hc := common_le last r.key
  have hd : (r.key.drop (common last r.key)).length ≤ 520 := by rw [List.length_drop]; omega
  have a := putUint_length_ten (n := common last r.key) (by omega)
  have b := putUint_length_ten (n := (r.key.drop (common last r.key)).length) (by omega)
  have c := putUint_length_ten (n := r.seq) (by omega)
  have d := putUint_length_ten (n := r.value.length) (by omega)
  have e : (if r.kind = 1 then putField r.value else []).length ≤ 2058 := by
    split
    · unfold putField; rw [List.length_append]; omega
    · simp
  unfold rowEnc
  unfold putField at *
  simp only [List.length_append, List.length_cons, List.length_nil] at *
  omega
theorem enc_mono (restart : Nat) (l m : List Row) (k : Nat) (last : List UInt8) : (enc restart k last l).length ≤ (enc restart k last (l ++ m)).length := by
  obtain ⟨x, hx, _⟩ := enc_append restart l m k last
  rw [hx, List.length_append]; exact Nat.le_add_right _ _
theorem enc_take_le (restart : Nat) (l : List Row) (n k : Nat) (last : List UInt8) : (enc restart k last (l.take n)).length ≤ (enc restart k last l).length := by
  have := enc_mono restart (l.take n) (l.drop n) k last
  rwa [List.take_append_drop] at this
/-- what a block has when one of its parts is too long -/
theorem build_far {l : List Row} {restart : Int} (h : ¬ (restart < 1 ∨ 64 < restart ∨ order l = false ∨ ∃ r ∈ l, check r = 2)) {n : Nat} (h2 : 65536 < (enc restart.toNat 0 [] (l.take n)).length) : build l restart = ([], 3) := by
  have h3 := enc_take_le restart.toNat l n 0 []
  have h4 := whole_length l restart.toNat
  have h5 : 65536 < (whole l restart.toNat).length := by omega
  unfold build
  rw [if_neg h, if_pos (.inr (.inr h5))]
section
variable {s last K V : List UInt8} {sh n1 e1 m1 e2 q m2 e3 k e4 : Nat}
theorem read_a (hu : uint s = (sh, n1, e1)) (h : e1 ≠ 0 ∨ last.length < sh) : read s last = none := by
  unfold read; simp only [hu]; rw [if_pos h]
theorem read_b (hu : uint s = (sh, n1, 0)) (h1 : sh ≤ last.length) (hf : field (s.drop n1) 520 = (K, m1, e2)) (h : e2 ≠ 0) : read s last = none := by
  unfold read; simp only [hu, hf]; rw [if_neg (by omega), if_pos h]
theorem read_c (hu : uint s = (sh, n1, 0)) (h1 : sh ≤ last.length) (hf : field (s.drop n1) 520 = (K, m1, 0)) (hv : uint (s.drop (n1 + m1)) = (q, m2, e3)) (h : e3 ≠ 0 ∨ n1 + m1 + m2 = s.length) : read s last = none := by
  unfold read; simp only [hu, hf, hv]; rw [if_neg (by omega), if_neg (by omega), if_pos h]
theorem read_d (hu : uint s = (sh, n1, 0)) (h1 : sh ≤ last.length) (hf : field (s.drop n1) 520 = (K, m1, 0)) (hv : uint (s.drop (n1 + m1)) = (q, m2, 0)) (h : n1 + m1 + m2 ≠ s.length) (hc : s.getD (n1 + m1 + m2) 0 ≠ 1) :
    read s last = some (⟨last.take sh ++ K, q, ((s.getD (n1 + m1 + m2) 0).toNat : Int), []⟩, n1 + m1 + m2 + 1) := by
  unfold read; simp only [hu, hf, hv]; rw [if_neg (by omega), if_neg (by omega), if_neg (by omega), if_neg hc]
theorem read_e (hu : uint s = (sh, n1, 0)) (h1 : sh ≤ last.length) (hf : field (s.drop n1) 520 = (K, m1, 0)) (hv : uint (s.drop (n1 + m1)) = (q, m2, 0)) (h : n1 + m1 + m2 ≠ s.length) (hc : s.getD (n1 + m1 + m2) 0 = 1)
    (hg : field (s.drop (n1 + m1 + m2 + 1)) 2048 = (V, k, e4)) (h4 : e4 ≠ 0) : read s last = none := by
  unfold read; simp only [hu, hf, hv, hg]; rw [if_neg (by omega), if_neg (by omega), if_neg (by omega), if_pos hc, if_pos h4]
theorem read_f (hu : uint s = (sh, n1, 0)) (h1 : sh ≤ last.length) (hf : field (s.drop n1) 520 = (K, m1, 0)) (hv : uint (s.drop (n1 + m1)) = (q, m2, 0)) (h : n1 + m1 + m2 ≠ s.length) (hc : s.getD (n1 + m1 + m2) 0 = 1)
    (hg : field (s.drop (n1 + m1 + m2 + 1)) 2048 = (V, k, 0)) : read s last = some (⟨last.take sh ++ K, q, 1, V⟩, n1 + m1 + m2 + 1 + k) := by
  unfold read; simp only [hu, hf, hv, hg]; rw [if_neg (by omega), if_neg (by omega), if_neg (by omega), if_pos hc, if_neg (by simp)]
end
theorem read_bounds {s last : List UInt8} {r : Row} {n : Nat} (h : read s last = some (r, n)) : 1 ≤ n ∧ n ≤ s.length ∧ r.seq < 18446744073709551616 ∧ r.key.length ≤ last.length + 520 ∧ r.value.length ≤ 2048 := by
  obtain ⟨⟨sh, n1, e1⟩, hu⟩ : ∃ x, uint s = x := ⟨_, rfl⟩
  by_cases h1 : e1 ≠ 0 ∨ last.length < sh
  · rw [read_a hu h1] at h; cases h
  obtain rfl : e1 = 0 := by omega
  obtain ⟨⟨K, m1, e2⟩, hf⟩ : ∃ x, field (s.drop n1) 520 = x := ⟨_, rfl⟩
  by_cases h2 : e2 = 0
  case neg => rw [read_b hu (by omega) hf h2] at h; cases h
  subst h2
  obtain ⟨⟨q, m2, e3⟩, hv⟩ : ∃ x, uint (s.drop (n1 + m1)) = x := ⟨_, rfl⟩
  have u1 := uint_ok hu
  have f1 := field_ok hf
  rw [List.length_drop] at f1
  by_cases h3 : e3 ≠ 0 ∨ n1 + m1 + m2 = s.length
  · rw [read_c hu (by omega) hf hv h3] at h; cases h
  obtain rfl : e3 = 0 := by omega
  have u2 := uint_ok hv
  rw [List.length_drop] at u2
  by_cases hc : s.getD (n1 + m1 + m2) 0 = 1
  · obtain ⟨⟨V, k, e4⟩, hg⟩ : ∃ x, field (s.drop (n1 + m1 + m2 + 1)) 2048 = x := ⟨_, rfl⟩
    by_cases h4 : e4 = 0
    case neg => rw [read_e hu (by omega) hf hv (by omega) hc hg h4] at h; cases h
    subst h4
    rw [read_f hu (by omega) hf hv (by omega) hc hg] at h
    have f2 := field_ok hg
    rw [List.length_drop] at f2
    simp only [Option.some.injEq, Prod.mk.injEq] at h
    obtain ⟨rfl, rfl⟩ := h
    refine ⟨by omega, by omega, u2.2.2.2, ?_, by show V.length ≤ 2048; omega⟩
    show (last.take sh ++ K).length ≤ _
    rw [List.length_append, List.length_take]; omega
  · rw [read_d hu (by omega) hf hv (by omega) hc] at h
    simp only [Option.some.injEq, Prod.mk.injEq] at h
    obtain ⟨rfl, rfl⟩ := h
    refine ⟨by omega, by omega, u2.2.2.2, ?_, Nat.zero_le _⟩
    show (last.take sh ++ K).length ≤ _
    rw [List.length_append, List.length_take]; omega
/-- where the restarts lie -/
def restarts (s : List UInt8) : List Nat := (List.range (unfour (s.drop (s.length - 8)))).map fun j => unfour (s.drop (s.length - 8 - 4 * unfour (s.drop (s.length - 8)) + 4 * j))
theorem unfour_lt (l : List UInt8) : unfour l < 4294967296 := by
  have h := fun c : UInt8 => c.toNat_lt
  have a := h (l.getD 0 0)
  have b := h (l.getD 1 0)
  have c := h (l.getD 2 0)
  have d := h (l.getD 3 0)
  unfold unfour
  omega
theorem rows_of {s : List UInt8} (h : ¬ (s.length < 8 ∨ 65536 < s.length ∨ (s.length - 8) / 4 < unfour (s.drop (s.length - 8)))) :
    rows s = match decode (s.length + 1) (body s) [] 0 with | none => ([], 7) | some l => if build l (unfour (s.drop (s.length - 4)) : Int) = (s, 0) then (l, 0) else ([], 7) := by
  unfold rows; rw [if_neg h]; first | done | rfl
theorem rows_some {s : List UInt8} (h : ¬ (s.length < 8 ∨ 65536 < s.length ∨ (s.length - 8) / 4 < unfour (s.drop (s.length - 8)))) {l : List Row} (hd : decode (s.length + 1) (body s) [] 0 = some l) :
    rows s = if build l (unfour (s.drop (s.length - 4)) : Int) = (s, 0) then (l, 0) else ([], 7) := by
  rw [rows_of h, hd]
theorem rows_none {s : List UInt8} (h : ¬ (s.length < 8 ∨ 65536 < s.length ∨ (s.length - 8) / 4 < unfour (s.drop (s.length - 8)))) (hd : decode (s.length + 1) (body s) [] 0 = none) : rows s = ([], 7) := by
  rw [rows_of h, hd]
theorem rows_bad {s : List UInt8} (h : s.length < 8 ∨ 65536 < s.length ∨ (s.length - 8) / 4 < unfour (s.drop (s.length - 8))) : rows s = ([], 7) := by
  unfold rows; rw [if_pos h]
theorem decode_go {fuel : Nat} {b last : List UInt8} {hv : Nat} (h : b ≠ []) {r : Row} {n : Nat} (hr : read b last = some (r, n)) (h1 : hv ≠ 1024) : decode (fuel + 1) b last hv = (decode fuel (b.drop n) r.key (hv + 1)).map (r :: ·) := by
  rw [decode, if_neg h, hr]; simp only; rw [if_neg h1]
theorem decode_bad {fuel : Nat} {b last : List UInt8} {hv : Nat} (h : b ≠ []) (hr : read b last = none) : decode (fuel + 1) b last hv = none := by
  rw [decode, if_neg h, hr]
theorem decode_many {fuel : Nat} {b last : List UInt8} {hv : Nat} (h : b ≠ []) {r : Row} {n : Nat} (hr : read b last = some (r, n)) (h1 : hv = 1024) : decode (fuel + 1) b last hv = none := by
  rw [decode, if_neg h, hr]; simp only; rw [if_pos h1]
theorem decode_end {fuel : Nat} {last : List UInt8} {hv : Nat} : decode (fuel + 1) [] last hv = some [] := by rw [decode, if_pos rfl]
end PBlock
