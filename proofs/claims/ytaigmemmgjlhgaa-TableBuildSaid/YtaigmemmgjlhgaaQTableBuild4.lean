/- Texts of this claim, joined by a program of this session (wip/pack.py): PCode, PFrame, PBlock, PBlock2, PTable, PTable2, PTable3. -/
import GoSem.Op.String
import Derived.Test.YtaigmemmgjlhgaaQTableBuild10
-- PCode
namespace PCode
def putUint (n : Nat) : List UInt8 :=
 if n < 128 then [UInt8.ofNat n] else UInt8.ofNat (n % 128 + 128) :: putUint (n / 128)
 termination_by n
theorem putUint_small {n : Nat} (h : n < 128) : putUint n = [UInt8.ofNat n] := by rw [putUint, if_pos h]
theorem putUint_big {n : Nat} (h : ¬ n < 128) : putUint n = UInt8.ofNat (n % 128 + 128) :: putUint (n / 128) := by rw [putUint, if_neg h]
theorem putUint_pos (n : Nat) : 0 < (putUint n).length := by rw [putUint]; split <;> simp
theorem putUint_length_le (k : Nat) : ∀ n : Nat, n < 128 ^ k → 0 < k → (putUint n).length ≤ k := by
 induction k with
 | zero => intro n h h0; omega
 | succ k ih =>
  intro n h _
  rw [putUint]
  split
  ·simp
  ·rename_i hn
   have hk : 0 < k := by
    rcases Nat.eq_zero_or_pos k with h0 | h0
    ·subst h0; simp at h; omega
    ·exact h0
   have := ih (n / 128) (by rw [Nat.div_lt_iff_lt_mul (by omega)]; rw [Nat.pow_succ] at h; exact h) hk
   simp only [List.length_cons]; omega
theorem putUint_length_ten {n : Nat} (h : n < 18446744073709551616) : (putUint n).length ≤ 10 := putUint_length_le 10 n (by omega) (by omega)
def uintAt : Nat → List UInt8 → Nat × Nat × Nat
 | _, [] => (0, 0, 6)
 | k, c :: l =>
  if k = 9 ∧ 1 < c.toNat then (0, 0, 7)
  else if c.toNat < 128 then (if c.toNat = 0 ∧ 0 < k then (0, 0, 7) else (c.toNat, 1, 0))
  else if (uintAt (k + 1) l).2.2 = 0 then ((uintAt (k + 1) l).1 * 128 + (c.toNat - 128), (uintAt (k + 1) l).2.1 + 1, 0) else (0, 0, (uintAt (k + 1) l).2.2)
def uint (l : List UInt8) : Nat × Nat × Nat := uintAt 0 l
theorem uintAt_err (k : Nat) (l : List UInt8) : (uintAt k l).2.2 = 0 ∨ uintAt k l = (0, 0, 6) ∨ uintAt k l = (0, 0, 7) := by
 induction l generalizing k with
 | nil => right; left; rfl
 | cons c l ih =>
  unfold uintAt
  split
  ·right; right; rfl
  ·split
   ·split
    ·right; right; rfl
    ·left; rfl
   ·split
    ·left; rfl
    ·rename_i h
     rcases ih (k + 1) with h1 | h1 | h1
     ·exact absurd h1 h
     ·right; left; rw [h1]
     ·right; right; rw [h1]
theorem toNat_ofNat_lt {n : Nat} (h : n < 256) : (UInt8.ofNat n).toNat = n := by simp; omega
theorem uintAt_put (j : Nat) : ∀ (k n : Nat) (l : List UInt8), (k = 0 ∨ 0 < n) → n * 128 ^ k < 18446744073709551616 → k + j = 10 → uintAt k (putUint n ++ l) = (n, (putUint n).length, 0) := by
 induction j with
 | zero =>
  intro k n l h0 h hk
  obtain rfl : k = 10 := by omega
  have : 0 < n := by omega
  omega
 | succ j ih =>
  intro k n l h0 h hk
  have h9 : k = 9 → n < 2 := by rintro rfl; omega
  by_cases hn : n < 128
  ·rw [putUint_small hn]
   simp only [List.cons_append, List.nil_append, uintAt, List.length_cons, List.length_nil]
   rw [toNat_ofNat_lt (by omega), if_neg (by omega), if_pos hn, if_neg (by omega)]
  ·rw [putUint_big hn]
   have hk9 : k ≠ 9 := by intro e; have := h9 e; omega
   have e := ih (k + 1) (n / 128) l (by omega) (by
    refine Nat.lt_of_le_of_lt ?_ h
    rw [Nat.pow_succ, Nat.mul_comm (128 ^ k) 128, ← Nat.mul_assoc]
    exact Nat.mul_le_mul_right _ (by omega)) (by omega)
   simp only [List.cons_append, uintAt, List.length_cons]
   rw [toNat_ofNat_lt (by omega), if_neg (by omega), if_neg (by omega), e, if_pos rfl]
   simp only [Prod.mk.injEq, and_true]
   omega
theorem uint_put {n : Nat} (h : n < 18446744073709551616) (l : List UInt8) : uint (putUint n ++ l) = (n, (putUint n).length, 0) :=
 uintAt_put 10 0 n l (.inl rfl) (by simpa using h) (by omega)
theorem uintAt_ok (l : List UInt8) : ∀ (k n s : Nat), uintAt k l = (n, s, 0) → k < 10 →
  putUint n = l.take s ∧ 1 ≤ s ∧ s ≤ l.length ∧ n * 128 ^ k < 18446744073709551616 ∧ (0 < k → 0 < n) := by
 induction l with
 | nil => intro k n s h; simp [uintAt] at h
 | cons c l ih =>
  intro k n s h hk
  have hc := c.toNat_lt
  unfold uintAt at h
  split at h
  ·simp at h
  ·rename_i h9
   split at h
   ·rename_i h128
    split at h
    ·simp at h
    ·rename_i hz
     simp only [Prod.mk.injEq, and_true] at h
     obtain ⟨rfl, rfl⟩ := h
     refine ⟨by rw [putUint_small h128]; simp, by omega, by simp, ?_, by omega⟩
     have hp : 128 ^ k ≤ 128 ^ 9 := Nat.pow_le_pow_right (by omega) (by omega)
     by_cases e : k = 9
     ·subst e; omega
     ·have hp : 128 ^ k ≤ 128 ^ 8 := Nat.pow_le_pow_right (by omega) (by omega)
      refine Nat.lt_of_le_of_lt (Nat.mul_le_mul (show c.toNat ≤ 127 by omega) hp) (by omega)
   ·rename_i h128
    split at h
    ·rename_i he
     have hk9 : k ≠ 9 := by omega
     obtain ⟨a, b, d, f, g⟩ := ih (k + 1) (uintAt (k + 1) l).1 (uintAt (k + 1) l).2.1 (by rw [← he]) (by omega)
     simp only [Prod.mk.injEq, and_true] at h
     obtain ⟨rfl, rfl⟩ := h
     generalize (uintAt (k + 1) l).1 = m at *
     generalize (uintAt (k + 1) l).2.1 = t at *
     have hm := g (by omega)
     refine ⟨?_, by omega, by simpa using d, ?_, by omega⟩
     ·rw [putUint_big (by omega), show (m * 128 + (c.toNat - 128)) / 128 = m by omega, show (m * 128 + (c.toNat - 128)) % 128 + 128 = c.toNat by omega, a]
      simp
     ·rw [Nat.pow_succ] at f
      have hk8 : k ≤ 8 := by omega
      have e9 : (18446744073709551616 : Nat) = 128 ^ k * (128 ^ (8 - k) * 256) := by
       rw [← Nat.mul_assoc, ← Nat.pow_add, show k + (8 - k) = 8 by omega]
      rw [e9] at f ⊢
      have hp : 0 < 128 ^ k := Nat.pow_pos (by omega)
      have f2 : m * 128 < 128 ^ (8 - k) * 256 := by
       refine Nat.lt_of_mul_lt_mul_left (a := 128 ^ k) ?_
       rw [Nat.mul_comm (128 ^ k) (m * 128), Nat.mul_assoc, Nat.mul_comm 128]
       exact f
      rw [Nat.mul_comm]
      refine Nat.mul_lt_mul_of_pos_left ?_ hp
      have hd : 128 ^ (8 - k) * 256 = 128 * (128 ^ (8 - k) * 2) := by omega
      omega
    ·rename_i he
     simp only [Prod.mk.injEq] at h
     exact absurd h.2.2 he
theorem uint_ok {l : List UInt8} {n s : Nat} (h : uint l = (n, s, 0)) : putUint n = l.take s ∧ 1 ≤ s ∧ s ≤ l.length ∧ n < 18446744073709551616 := by
 obtain ⟨a, b, c, d, _⟩ := uintAt_ok l 0 n s h (by omega)
 exact ⟨a, b, c, by simpa using d⟩
def be : Nat → Nat → List UInt8
 | 0, _ => []
 | k + 1, u => be k (u / 256) ++ [UInt8.ofNat (u % 256)]
abbrev lt := Go.Op.bytesLess
theorem lt_cons (a b : UInt8) (x y : List UInt8) : lt (a :: x) (b :: y) = (decide (a < b) || (a == b && lt x y)) := rfl
theorem lt_nil_right (x : List UInt8) : lt x [] = false := by cases x <;> rfl
theorem lt_irrefl (x : List UInt8) : lt x x = false := by
 induction x with
 | nil => rfl
 | cons a x ih => rw [lt_cons, ih]; simp
def text : List UInt8 → List UInt8 × Nat × Nat
 | [] => ([], 0, 6)
 | c :: l =>
  if c ≠ 0 then (if (text l).2.2 = 0 then (c :: (text l).1, (text l).2.1 + 1, 0) else ([], 0, (text l).2.2))
  else match l with
   | [] => ([], 0, 6)
   | d :: l =>
    if d = 1 then ([], 2, 0)
    else if d ≠ 255 then ([], 0, 7)
    else (if (text l).2.2 = 0 then (0 :: (text l).1, (text l).2.1 + 2, 0) else ([], 0, (text l).2.2))
def putField (t : List UInt8) : List UInt8 := putUint t.length ++ t
def field (l : List UInt8) (most : Int) : List UInt8 × Nat × Nat :=
 if (uint l).2.2 ≠ 0 then ([], 0, (uint l).2.2)
 else if most < 0 ∨ most < ((uint l).1 : Int) then ([], 0, 3)
 else if l.length - (uint l).2.1 < (uint l).1 then ([], 0, 6)
 else ((l.drop (uint l).2.1).take (uint l).1, (uint l).2.1 + (uint l).1, 0)
theorem field_put (t l : List UInt8) (most : Int) (ht : t.length < 18446744073709551616) (hm : (t.length : Int) ≤ most) : field (putField t ++ l) most = (t, (putField t).length, 0) := by
 unfold field putField
 rw [List.append_assoc, uint_put ht]
 simp only [List.length_append]
 rw [if_neg (by simp), if_neg (by omega), if_neg (by omega)]
 simp
theorem field_ok {l t : List UInt8} {most : Int} {s : Nat} (h : field l most = (t, s, 0)) : putField t = l.take s ∧ 1 ≤ s ∧ s ≤ l.length ∧ (t.length : Int) ≤ most := by
 unfold field at h
 split at h
 ·rename_i e
  simp only [Prod.mk.injEq] at h
  exact absurd h.2.2 e
 ·rename_i e
  have e : (uint l).2.2 = 0 := by simpa using e
  split at h
  ·simp at h
  ·rename_i hm
   split at h
   ·simp at h
   ·rename_i hl
    obtain ⟨a, b, c, d⟩ := uint_ok (l := l) (n := (uint l).1) (s := (uint l).2.1) (by rw [← e])
    simp only [Prod.mk.injEq, and_true] at h
    obtain ⟨rfl, rfl⟩ := h
    have hlen : ((l.drop (uint l).2.1).take (uint l).1).length = (uint l).1 := by simp; omega
    refine ⟨?_, by omega, by omega, by rw [hlen]; omega⟩
    unfold putField
    rw [hlen, a, List.take_add]
end PCode
-- PFrame
namespace PFrame
open PCode
def sumOf (l : List UInt8) : BitVec 32 := PCrc.sum 0 l
def mark (l : List UInt8) : List UInt8 := PCrc.le4 (sumOf l)
theorem seal_length (l : List UInt8) : (mark l).length = 4 := rfl
def put (p : List UInt8) : List UInt8 × Nat := if 65536 < p.length then ([], 3) else (putField p ++ mark (putField p), 0)
def get (s : List UInt8) : List UInt8 × Nat × Nat :=
 if (field s 65536).2.2 ≠ 0 then ([], 0, (field s 65536).2.2)
 else if s.length - (field s 65536).2.1 < 4 then ([], 0, 6)
 else if mark (s.take (field s 65536).2.1) ≠ (s.drop (field s 65536).2.1).take 4 then ([], 0, 7)
 else ((field s 65536).1, (field s 65536).2.1 + 4, 0)
theorem put_ok {p : List UInt8} (h : p.length ≤ 65536) : put p = (putField p ++ mark (putField p), 0) := by unfold put; rw [if_neg (by omega)]
theorem get_put (p b : List UInt8) (h : p.length ≤ 65536) : get ((put p).1 ++ b) = (p, (put p).1.length, 0) := by
 rw [put_ok h]
 dsimp only
 have hf := field_put p (mark (putField p) ++ b) 65536 (by omega) (by omega)
 unfold get
 rw [List.append_assoc, hf]
 dsimp only
 have hl : (mark (putField p)).length = 4 := seal_length _
 rw [if_neg (by simp), if_neg (by simp [hl]), if_neg, List.length_append, hl]
 rw [List.take_left, List.drop_left, List.take_append_of_le_length (by omega), List.take_of_length_le (by omega)]
 simp
theorem get_ok {s p : List UInt8} {n : Nat} (h : get s = (p, n, 0)) : (put p).2 = 0 ∧ (put p).1 = s.take n ∧ 5 ≤ n ∧ n ≤ s.length ∧ p.length ≤ 65536 ∧ (put p).1.length = n := by
 unfold get at h
 split at h
 ·rename_i e
  simp only [Prod.mk.injEq] at h
  exact absurd h.2.2 e
 ·rename_i e
  have e : (field s 65536).2.2 = 0 := by simpa using e
  split at h
  ·simp at h
  ·rename_i h4
   split at h
   ·simp at h
   ·rename_i hs
    have hs : mark (s.take (field s 65536).2.1) = (s.drop (field s 65536).2.1).take 4 := by simpa using hs
    obtain ⟨a, b, c, d⟩ := field_ok (l := s) (t := (field s 65536).1) (s := (field s 65536).2.1) (most := 65536) (by rw [← e])
    simp only [Prod.mk.injEq, and_true] at h
    obtain ⟨rfl, rfl⟩ := h
    have hp : (field s 65536).1.length ≤ 65536 := by omega
    rw [put_ok hp]
    dsimp only
    have e2 : putField (field s 65536).1 ++ mark (putField (field s 65536).1) = s.take ((field s 65536).2.1 + 4) := by rw [a, hs, List.take_add]
    refine ⟨rfl, e2, by omega, by omega, hp, by rw [e2]; simp; omega⟩
theorem get_err (s : List UInt8) : (get s).2.2 = 0 ∨ ((get s).1 = [] ∧ (get s).2.1 = 0) := by
 unfold get
 split
 ·right; exact ⟨rfl, rfl⟩
 ·split
  ·right; exact ⟨rfl, rfl⟩
  ·split
   ·right; exact ⟨rfl, rfl⟩
   ·left; rfl
theorem put_length_pos {p : List UInt8} (h : p.length ≤ 65536) : 5 ≤ (put p).1.length := by
 rw [put_ok h]
 have := putUint_pos p.length
 simp [putField, seal_length]; omega
def all (s : List UInt8) : List (List UInt8) × Nat × Nat :=
 if _h : s = [] ∨ (get s).2.2 ≠ 0 ∨ (get s).2.1 = 0 then ([], 0, if s = [] then 0 else (get s).2.2)
 else ((get s).1 :: (all (s.drop (get s).2.1)).1, (get s).2.1 + (all (s.drop (get s).2.1)).2.1, (all (s.drop (get s).2.1)).2.2)
 termination_by s.length
 decreasing_by
 all_goals
  have h1 : s ≠ [] := fun e => _h (.inl e)
  have := List.length_pos_iff.mpr h1
  have h2 : (get s).2.1 ≠ 0 := fun e => _h (.inr (.inr e))
  simp; omega
end PFrame
-- PBlock
namespace PBlock
open PCode
structure Row where
 key : List UInt8
 seq : Nat
 kind : Int
 value : List UInt8
def check (r : Row) : Nat :=
 if (r.kind ≠ 1 ∧ r.kind ≠ 2) ∨ r.key = [] ∨ (r.kind = 2 ∧ r.value ≠ []) ∨ r.seq = 0 ∨ 72057594037927935 < r.seq then 2
 else if 520 < r.key.length ∨ 2048 < r.value.length then 3 else 0
theorem check_ok {r : Row} (h : check r = 0) : (r.kind = 1 ∨ r.kind = 2) ∧ r.key ≠ [] ∧ (r.kind = 2 → r.value = []) ∧ 0 < r.seq ∧ r.seq ≤ 72057594037927935 ∧ r.key.length ≤ 520 ∧ r.value.length ≤ 2048 := by
 unfold check at h
 split at h
 ·omega
 ·rename_i h1
  split at h
  ·omega
  ·rename_i h2
   refine ⟨by omega, fun e => h1 (.inr (.inl e)), fun e => ?_, by omega, by omega, by omega, by omega⟩
   exact Classical.byContradiction fun f => h1 (.inr (.inr (.inl ⟨e, f⟩)))
def ahead (r : Row) (key : List UInt8) (seq : Nat) : Bool := lt r.key key || (r.key == key && decide (seq < r.seq))
def order : List Row → Bool
 | a :: b :: l => ahead a b.key b.seq && order (b :: l)
 | _ => true
theorem lt_trans {a b c : List UInt8} (h1 : lt a b = true) (h2 : lt b c = true) : lt a c = true := by
 induction a generalizing b c with
 | nil =>
  cases c with
  | nil => rw [lt_nil_right] at h2; cases h2
  | cons => rfl
 | cons x a ih =>
  cases b with
  | nil => rw [lt_nil_right] at h1; cases h1
  | cons y b =>
   cases c with
   | nil => rw [lt_nil_right] at h2; cases h2
   | cons z c =>
    simp only [lt_cons, Bool.or_eq_true, decide_eq_true_eq, Bool.and_eq_true, beq_iff_eq] at *
    rcases h1 with h1 | ⟨rfl, h1⟩
    ·rcases h2 with h2 | ⟨rfl, _⟩
     ·left; rw [UInt8.lt_iff_toNat_lt] at *; omega
     ·left; exact h1
    ·rcases h2 with h2 | ⟨rfl, h2⟩
     ·left; exact h2
     ·right; exact ⟨rfl, ih h1 h2⟩
theorem lt_asymm {a b : List UInt8} (h : lt a b = true) : lt b a = false := by
 cases e : lt b a with
 | false => rfl
 | true => have := lt_trans h e; rw [lt_irrefl] at this; cases this
theorem lt_total (a b : List UInt8) : lt a b = true ∨ a = b ∨ lt b a = true := by
 induction a generalizing b with
 | nil => cases b with
  | nil => right; left; rfl
  | cons => left; rfl
 | cons x a ih =>
  cases b with
  | nil => right; right; rfl
  | cons y b =>
   simp only [lt_cons, Bool.or_eq_true, decide_eq_true_eq, Bool.and_eq_true, beq_iff_eq]
   by_cases h : x = y
   ·subst h
    rcases ih b with h1 | h1 | h1
    ·left; right; exact ⟨rfl, h1⟩
    ·right; left; rw [h1]
    ·right; right; right; exact ⟨rfl, h1⟩
   ·have : x.toNat ≠ y.toNat := fun e => h (UInt8.toNat_inj.mp e)
    rcases Nat.lt_or_gt_of_ne this with g | g
    ·left; left; rw [UInt8.lt_iff_toNat_lt]; exact g
    ·right; right; left; rw [UInt8.lt_iff_toNat_lt]; exact g
theorem ahead_iff (r : Row) (k : List UInt8) (s : Nat) : ahead r k s = true ↔ lt r.key k = true ∨ (r.key = k ∧ s < r.seq) := by
 simp [ahead]
theorem ahead_trans {a b : Row} {k : List UInt8} {s : Nat} (h1 : ahead a b.key b.seq = true) (h2 : ahead b k s = true) : ahead a k s = true := by
 rw [ahead_iff] at *
 rcases h1 with h1 | ⟨e1, h1⟩
 ·rcases h2 with h2 | ⟨e2, _⟩
  ·left; exact lt_trans h1 h2
  ·left; rw [← e2]; exact h1
 ·rcases h2 with h2 | ⟨e2, h2⟩
  ·left; rw [e1]; exact h2
  ·right; exact ⟨e1.trans e2, by omega⟩
theorem order_tail {a : Row} {l : List Row} (h : order (a :: l) = true) : order l = true := by
 cases l with
 | nil => rfl
 | cons b l => simp only [order, Bool.and_eq_true] at h; exact h.2
theorem order_all {a : Row} {l : List Row} (h : order (a :: l) = true) : ∀ b ∈ l, ahead a b.key b.seq = true := by
 induction l generalizing a with
 | nil => intro b hb; cases hb
 | cons c l ih =>
  intro b hb
  have hc : ahead a c.key c.seq = true := by simp only [order, Bool.and_eq_true] at h; exact h.1
  rcases List.mem_cons.1 hb with rfl | hb
  ·exact hc
  ·exact ahead_trans hc (ih (order_tail h) b hb)
theorem order_take {l : List Row} (h : order l = true) (n : Nat) : order (l.take n) = true := by
 induction n generalizing l with
 | zero => rw [List.take_zero]; rfl
 | succ n ih =>
  cases l with
  | nil => rfl
  | cons a l =>
   rw [List.take_succ_cons]
   have := ih (order_tail h)
   cases l with
   | nil => rw [List.take_nil]; rfl
   | cons b l =>
    cases n with
    | zero => rfl
    | succ n =>
     rw [List.take_succ_cons] at this ⊢
     simp only [order, Bool.and_eq_true] at h ⊢
     exact ⟨h.1, this⟩
def common : List UInt8 → List UInt8 → Nat
 | a :: x, b :: y => if a = b then common x y + 1 else 0
 | _, _ => 0
theorem common_le : ∀ (x y : List UInt8), common x y ≤ x.length ∧ common x y ≤ y.length
 | [], _ => by simp [common]
 | _ :: _, [] => by simp [common]
 | a :: x, b :: y => by
  unfold common
  split
  ·have := common_le x y; simp; omega
  ·simp
theorem common_take : ∀ (x y : List UInt8), x.take (common x y) = y.take (common x y)
 | [], _ => by simp [common]
 | _ :: _, [] => by simp [common]
 | a :: x, b :: y => by
  unfold common
  split
  ·rename_i h
   rw [h, List.take_succ_cons, List.take_succ_cons, common_take x y]
  ·rfl
def rowEnc (r : Row) (last : List UInt8) : List UInt8 :=
 putUint (common last r.key) ++ putField (r.key.drop (common last r.key)) ++ putUint r.seq ++ [UInt8.ofNat (r.kind % 256).toNat] ++ (if r.kind = 1 then putField r.value else [])
def read (s last : List UInt8) : Option (Row × Nat) :=
 if (uint s).2.2 ≠ 0 ∨ last.length < (uint s).1 then none
 else if (field (s.drop (uint s).2.1) 520).2.2 ≠ 0 then none
 else if (uint (s.drop ((uint s).2.1 + (field (s.drop (uint s).2.1) 520).2.1))).2.2 ≠ 0 ∨ (uint s).2.1 + (field (s.drop (uint s).2.1) 520).2.1 + (uint (s.drop ((uint s).2.1 + (field (s.drop (uint s).2.1) 520).2.1))).2.1 = s.length then none
 else
  let n := (uint s).2.1 + (field (s.drop (uint s).2.1) 520).2.1 + (uint (s.drop ((uint s).2.1 + (field (s.drop (uint s).2.1) 520).2.1))).2.1
  let key := last.take (uint s).1 ++ (field (s.drop (uint s).2.1) 520).1
  let seq := (uint (s.drop ((uint s).2.1 + (field (s.drop (uint s).2.1) 520).2.1))).1
  if (s.getD n 0) = 1 then
   if (field (s.drop (n + 1)) 2048).2.2 ≠ 0 then none
   else some (⟨key, seq, 1, (field (s.drop (n + 1)) 2048).1⟩, n + 1 + (field (s.drop (n + 1)) 2048).2.1)
  else some (⟨key, seq, ((s.getD n 0).toNat : Int), []⟩, n + 1)
theorem read_enc' (r : Row) (base last rest : List UInt8) (h : check r = 0) (hcl : common base r.key ≤ last.length) (hct : last.take (common base r.key) = r.key.take (common base r.key)) : read (rowEnc r base ++ rest) last = some (r, (rowEnc r base).length) := by
 obtain ⟨hk, hne, hv, hs0, hs1, hkl, hvl⟩ := check_ok h
 have hc := common_le base r.key
 obtain ⟨K, hK⟩ : ∃ K, K = r.key.drop (common base r.key) := ⟨_, rfl⟩
 obtain ⟨T, hT⟩ : ∃ T, T = (if r.kind = 1 then putField r.value else []) := ⟨_, rfl⟩
 have hKl : K.length ≤ 520 := by rw [hK]; simp; omega
 have e0 : rowEnc r base ++ rest = putUint (common base r.key) ++ (putField K ++ (putUint r.seq ++ (UInt8.ofNat (r.kind % 256).toNat :: (T ++ rest)))) := by
  unfold rowEnc; rw [← hK, ← hT]; simp [List.append_assoc]
 have u1 := uint_put (n := common base r.key) (by omega) (putField K ++ (putUint r.seq ++ (UInt8.ofNat (r.kind % 256).toNat :: (T ++ rest))))
 have f1 := field_put K (putUint r.seq ++ (UInt8.ofNat (r.kind % 256).toNat :: (T ++ rest))) 520 (by omega) (by omega)
 have u2 := uint_put (n := r.seq) (by omega) (UInt8.ofNat (r.kind % 256).toNat :: (T ++ rest))
 have d1 : (rowEnc r base ++ rest).drop (putUint (common base r.key)).length = putField K ++ (putUint r.seq ++ (UInt8.ofNat (r.kind % 256).toNat :: (T ++ rest))) := by rw [e0, List.drop_left]
 have d2 : (rowEnc r base ++ rest).drop ((putUint (common base r.key)).length + (putField K).length) = putUint r.seq ++ (UInt8.ofNat (r.kind % 256).toNat :: (T ++ rest)) := by rw [← List.drop_drop, d1, List.drop_left]
 have d3 : (rowEnc r base ++ rest).drop ((putUint (common base r.key)).length + (putField K).length + (putUint r.seq).length) = UInt8.ofNat (r.kind % 256).toNat :: (T ++ rest) := by rw [← List.drop_drop, d2, List.drop_left]
 have d4 : (rowEnc r base ++ rest).drop ((putUint (common base r.key)).length + (putField K).length + (putUint r.seq).length + 1) = T ++ rest := by rw [← List.drop_drop, d3]; rfl
 have g : (rowEnc r base ++ rest).getD ((putUint (common base r.key)).length + (putField K).length + (putUint r.seq).length) 0 = UInt8.ofNat (r.kind % 256).toNat := by
  have := congrArg (fun l => l[0]?) d3
  simp only [List.getElem?_drop, Nat.add_zero, List.getElem?_cons_zero] at this
  rw [List.getD_eq_getElem?_getD, this]; rfl
 have lens : (rowEnc r base ++ rest).length = (putUint (common base r.key)).length + (putField K).length + (putUint r.seq).length + 1 + T.length + rest.length := by
  rw [e0]; simp; omega
 have lenr : (rowEnc r base).length = (putUint (common base r.key)).length + (putField K).length + (putUint r.seq).length + 1 + T.length := by
  rw [List.length_append] at lens; omega
 have hkey : last.take (common base r.key) ++ K = r.key := by rw [hK, hct, List.take_append_drop]
 have us : uint (rowEnc r base ++ rest) = (common base r.key, (putUint (common base r.key)).length, 0) := by rw [e0]; exact u1
 unfold read
 simp only [us, d1, f1, d2, u2, d4, g]
 rw [if_neg (by omega), if_neg (by simp), if_neg (by omega)]
 rcases hk with hk | hk
 ·rw [hk] at hT ⊢
  rw [if_pos rfl] at hT
  have e1 : (UInt8.ofNat ((1 : Int) % 256).toNat) = 1 := rfl
  rw [e1, if_pos rfl, hT, field_put r.value rest 2048 (by omega) (by omega)]
  rw [if_neg (by simp), lenr, hT, hkey]
  congr 2
  cases r; simp_all
 ·rw [hk] at hT ⊢
  rw [if_neg (by omega)] at hT
  have e1 : (UInt8.ofNat ((2 : Int) % 256).toNat) = 2 := rfl
  rw [e1, if_neg (by decide), lenr, hT, hkey]
  have hv := hv hk
  congr 2
  cases r; simp_all
theorem read_enc (r : Row) (last rest : List UInt8) (h : check r = 0) : read (rowEnc r last ++ rest) last = some (r, (rowEnc r last).length) :=
 read_enc' r last last rest h (common_le last r.key).1 (common_take last r.key)
theorem read_enc_any (r : Row) (last rest : List UInt8) (h : check r = 0) : read (rowEnc r [] ++ rest) last = some (r, (rowEnc r []).length) :=
 read_enc' r [] last rest h (by simp [common]) (by simp [common])
theorem rowEnc_pos (r : Row) (last : List UInt8) : 4 ≤ (rowEnc r last).length := by
 have a := putUint_pos (common last r.key)
 have b := putUint_pos (r.key.drop (common last r.key)).length
 have c := putUint_pos r.seq
 unfold rowEnc putField
 simp only [List.length_append, List.length_cons, List.length_nil]
 omega
def enc (restart : Nat) : Nat → List UInt8 → List Row → List UInt8
 | _, _, [] => []
 | i, last, r :: l => rowEnc r (if i % restart = 0 then [] else last) ++ enc restart (i + 1) r.key l
def ends (restart : Nat) : Nat → Nat → List UInt8 → List Row → List Nat
 | _, _, _, [] => []
 | i, off, last, r :: l => (if i % restart = 0 then [off] else []) ++ ends restart (i + 1) (off + (rowEnc r (if i % restart = 0 then [] else last)).length) r.key l
def four (n : Nat) : List UInt8 := [UInt8.ofNat (n % 256), UInt8.ofNat (n / 256 % 256), UInt8.ofNat (n / 65536 % 256), UInt8.ofNat (n / 16777216 % 256)]
def unfour (l : List UInt8) : Nat := (l.getD 0 0).toNat + 256 * (l.getD 1 0).toNat + 65536 * (l.getD 2 0).toNat + 16777216 * (l.getD 3 0).toNat
theorem four_length (n : Nat) : (four n).length = 4 := rfl
theorem unfour_four {n : Nat} (h : n < 4294967296) (l : List UInt8) : unfour (four n ++ l) = n := by
 unfold unfour four
 simp only [List.cons_append, List.nil_append, List.getD_cons_zero, List.getD_cons_succ]
 rw [toNat_ofNat_lt (by omega), toNat_ofNat_lt (by omega), toNat_ofNat_lt (by omega), toNat_ofNat_lt (by omega)]
 omega
def fours (l : List Nat) : List UInt8 := l.flatMap four
theorem fours_length (l : List Nat) : (fours l).length = 4 * l.length := by
 induction l with
 | nil => rfl
 | cons a l ih => simp only [fours, List.flatMap_cons, List.length_append, List.length_cons, four_length] at *; omega
def whole (l : List Row) (restart : Nat) : List UInt8 := enc restart 0 [] l ++ fours (ends restart 0 0 [] l) ++ four (ends restart 0 0 [] l).length ++ four restart
def build (l : List Row) (restart : Int) : List UInt8 × Nat :=
 if restart < 1 ∨ 64 < restart ∨ order l = false ∨ (∃ r ∈ l, check r = 2) then ([], 2)
 else if 1024 < l.length ∨ (∃ r ∈ l, check r = 3) ∨ 65536 < (whole l restart.toNat).length then ([], 3)
 else (whole l restart.toNat, 0)
theorem build_ok {l : List Row} {restart : Int} {s : List UInt8} (h : build l restart = (s, 0)) :
  1 ≤ restart ∧ restart ≤ 64 ∧ order l = true ∧ (∀ r ∈ l, check r = 0) ∧ l.length ≤ 1024 ∧ s = whole l restart.toNat ∧ s.length ≤ 65536 := by
 unfold build at h
 split at h
 ·simp at h
 ·rename_i h1
  split at h
  ·simp at h
  ·rename_i h2
   simp only [Prod.mk.injEq, and_true] at h
   subst h
   refine ⟨by omega, by omega, ?_, fun r hr => ?_, by omega, rfl, by omega⟩
   ·cases e : order l with
    | true => rfl
    | false => exact absurd (.inr (.inr (.inl e))) h1
   ·have a : check r ≠ 2 := fun e => h1 (.inr (.inr (.inr ⟨r, hr, e⟩)))
    have b : check r ≠ 3 := fun e => h2 (.inr (.inl ⟨r, hr, e⟩))
    unfold check at a b ⊢
    split
    ·simp_all
    ·split <;> simp_all
theorem build_of {l : List Row} {restart : Int} (h1 : 1 ≤ restart) (h2 : restart ≤ 64) (h3 : order l = true) (h4 : ∀ r ∈ l, check r = 0) (h5 : l.length ≤ 1024) (h6 : (whole l restart.toNat).length ≤ 65536) : build l restart = (whole l restart.toNat, 0) := by
 unfold build
 rw [if_neg, if_neg]
 ·rintro (h | ⟨r, hr, h⟩ | h)
  ·omega
  ·rw [h4 r hr] at h; omega
  ·omega
 ·rintro (h | h | h | ⟨r, hr, h⟩)
  ·omega
  ·omega
  ·rw [h3] at h; cases h
  ·rw [h4 r hr] at h; omega
def decode : Nat → List UInt8 → List UInt8 → Nat → Option (List Row)
 | 0, _, _, _ => none
 | fuel + 1, body, last, have_ =>
  if body = [] then some []
  else match read body last with
   | none => none
   | some (r, n) => if have_ = 1024 then none else (decode fuel (body.drop n) r.key (have_ + 1)).map (r :: ·)
theorem decode_enc (restart : Nat) (l : List Row) : ∀ (fuel i : Nat) (last : List UInt8) (hv : Nat), l.length < fuel → (∀ r ∈ l, check r = 0) → hv + l.length ≤ 1024 →
  decode fuel (enc restart i last l) last hv = some l := by
 induction l with
 | nil =>
  intro fuel i last hv hf _ _
  obtain ⟨fuel, rfl⟩ : ∃ m, fuel = m + 1 := ⟨fuel - 1, by simp at hf; omega⟩
  simp [decode, enc]
 | cons r l ih =>
  intro fuel i last hv hf hc hn
  simp only [List.length_cons] at hf hn
  obtain ⟨fuel, rfl⟩ : ∃ m, fuel = m + 1 := ⟨fuel - 1, by omega⟩
  have hr := hc r List.mem_cons_self
  have hrd : read (enc restart i last (r :: l)) last = some (r, (rowEnc r (if i % restart = 0 then [] else last)).length) := by
   simp only [enc]
   split
   ·exact read_enc_any r last _ hr
   ·exact read_enc r last _ hr
  have hne : enc restart i last (r :: l) ≠ [] := by
   have := rowEnc_pos r (if i % restart = 0 then [] else last)
   intro e
   have := congrArg List.length e
   simp only [enc, List.length_append, List.length_nil] at this
   omega
  have hd : (enc restart i last (r :: l)).drop (rowEnc r (if i % restart = 0 then [] else last)).length = enc restart (i + 1) r.key l := by
   simp only [enc]; rw [List.drop_left]
  rw [decode, if_neg hne, hrd]
  simp only
  rw [if_neg (by omega), hd, ih fuel (i + 1) r.key (hv + 1) (by omega) (fun x hx => hc x (List.mem_cons_of_mem _ hx)) (by omega)]
  rfl
def body (s : List UInt8) : List UInt8 := s.take (s.length - 8 - 4 * unfour (s.drop (s.length - 8)))
def rows (s : List UInt8) : List Row × Nat :=
 if s.length < 8 ∨ 65536 < s.length ∨ (s.length - 8) / 4 < unfour (s.drop (s.length - 8)) then ([], 7)
 else match decode (s.length + 1) (body s) [] 0 with
  | none => ([], 7)
  | some l => if build l (unfour (s.drop (s.length - 4)) : Int) = (s, 0) then (l, 0) else ([], 7)
theorem enc_length_le (restart : Nat) (l : List Row) : ∀ (i : Nat) (last : List UInt8), l.length ≤ (enc restart i last l).length := by
 induction l with
 | nil => intro i last; simp [enc]
 | cons r l ih =>
  intro i last
  have := ih (i + 1) r.key
  have := rowEnc_pos r (if i % restart = 0 then [] else last)
  simp only [enc, List.length_append, List.length_cons]
  omega
theorem ends_length_le (restart : Nat) (l : List Row) : ∀ (i off : Nat) (last : List UInt8), (ends restart i off last l).length ≤ l.length := by
 induction l with
 | nil => intro i off last; simp [ends]
 | cons r l ih =>
  intro i off last
  have := ih (i + 1) (off + (rowEnc r (if i % restart = 0 then [] else last)).length) r.key
  have h2 : (if i % restart = 0 then [off] else []).length ≤ 1 := by split <;> simp
  simp only [ends, List.length_append, List.length_cons]
  omega
theorem whole_length (l : List Row) (restart : Nat) : (whole l restart).length = (enc restart 0 [] l).length + 4 * (ends restart 0 0 [] l).length + 8 := by
 unfold whole
 simp only [List.length_append, fours_length, four_length]
theorem whole_body (l : List Row) (restart : Nat) (h : l.length ≤ 1024) : body (whole l restart) = enc restart 0 [] l ∧ unfour ((whole l restart).drop ((whole l restart).length - 8)) = (ends restart 0 0 [] l).length := by
 have e1 : (whole l restart).drop ((whole l restart).length - 8) = four (ends restart 0 0 [] l).length ++ four restart := by
  rw [whole_length]
  unfold whole
  rw [show (enc restart 0 [] l).length + 4 * (ends restart 0 0 [] l).length + 8 - 8 = (enc restart 0 [] l ++ fours (ends restart 0 0 [] l)).length by simp [fours_length]]
  rw [List.append_assoc (enc restart 0 [] l ++ fours (ends restart 0 0 [] l)), List.drop_left]
 have hn := ends_length_le restart l 0 0 []
 have e2 : unfour ((whole l restart).drop ((whole l restart).length - 8)) = (ends restart 0 0 [] l).length := by
  rw [e1, unfour_four (by omega)]
 refine ⟨?_, e2⟩
 unfold body
 rw [e2, whole_length]
 rw [show (enc restart 0 [] l).length + 4 * (ends restart 0 0 [] l).length + 8 - 8 - 4 * (ends restart 0 0 [] l).length = (enc restart 0 [] l).length by omega]
 unfold whole
 rw [List.append_assoc, List.append_assoc, List.take_left]
theorem whole_restart (l : List Row) (restart : Nat) (h : restart < 4294967296) : unfour ((whole l restart).drop ((whole l restart).length - 4)) = restart := by
 have e1 : (whole l restart).drop ((whole l restart).length - 4) = four restart := by
  have : (whole l restart).length - 4 = (enc restart 0 [] l ++ fours (ends restart 0 0 [] l) ++ four (ends restart 0 0 [] l).length).length := by
   rw [whole_length]; simp [fours_length, four_length]; omega
  rw [this]
  unfold whole
  rw [List.drop_left]
 rw [e1]
 have := unfour_four h []
 rwa [List.append_nil] at this
theorem rows_build {l : List Row} {restart : Int} {s : List UInt8} (h : build l restart = (s, 0)) : rows s = (l, 0) := by
 obtain ⟨h1, h2, h3, h4, h5, rfl, h7⟩ := build_ok h
 obtain ⟨e1, e2⟩ := whole_body l restart.toNat h5
 have e3 := whole_restart l restart.toNat (by omega)
 have hl := whole_length l restart.toNat
 have hle := enc_length_le restart.toNat l 0 []
 unfold rows
 rw [if_neg (by rw [e2]; omega), e1, decode_enc restart.toNat l _ 0 [] 0 (by omega) h4 (by omega)]
 simp only
 rw [e3, show ((restart.toNat : Nat) : Int) = restart by omega, if_pos h]
theorem rows_ok {s : List UInt8} {l : List Row} (h : rows s = (l, 0)) : build l (unfour (s.drop (s.length - 4)) : Int) = (s, 0) := by
 unfold rows at h
 split at h
 ·simp at h
 ·split at h
  ·simp at h
  ·split at h
   ·rename_i hb
    simp only [Prod.mk.injEq, and_true] at h
    subst h
    exact hb
   ·simp at h
theorem rows_err (s : List UInt8) : (rows s).2 = 0 ∨ rows s = ([], 7) := by
 unfold rows
 split
 ·right; rfl
 ·split
  ·right; rfl
  ·split
   ·left; rfl
   ·right; rfl
def place : List Row → List UInt8 → Nat → Nat
 | r :: l, k, s => if ahead r k s then place l k s + 1 else 0
 | [], _, _ => 0
theorem enc_append (restart : Nat) (l m : List Row) : ∀ (i : Nat) (last : List UInt8), ∃ x, enc restart i last (l ++ m) = enc restart i last l ++ x ∧ m.length ≤ x.length := by
 induction l with
 | nil => intro i last; exact ⟨_, rfl, enc_length_le restart m i last⟩
 | cons r l ih =>
  intro i last
  obtain ⟨x, hx, hm⟩ := ih (i + 1) r.key
  exact ⟨x, by simp only [List.cons_append, enc]; rw [hx, List.append_assoc], hm⟩
end PBlock
-- PBlock2
namespace PBlock
open PCode
def lastOf : List UInt8 → List Row → List UInt8
 | k, [] => k
 | _, r :: l => lastOf r.key l
theorem lastOf_snoc (k : List UInt8) (l : List Row) (r : Row) : lastOf k (l ++ [r]) = r.key := by
 induction l generalizing k with
 | nil => rfl
 | cons a l ih => exact ih a.key
theorem enc_snoc (restart : Nat) (l : List Row) (r : Row) : ∀ (k : Nat) (last : List UInt8), enc restart k last (l ++ [r]) = enc restart k last l ++ rowEnc r (if (k + l.length) % restart = 0 then [] else lastOf last l) := by
 induction l with
 | nil => intro k last; simp [enc, lastOf]
 | cons a l ih =>
  intro k last
  simp only [List.cons_append, enc, ih (k + 1) a.key, lastOf, List.append_assoc, List.length_cons]
  rw [show k + 1 + l.length = k + (l.length + 1) by omega]
theorem ends_snoc (restart : Nat) (l : List Row) (r : Row) : ∀ (k off : Nat) (last : List UInt8), ends restart k off last (l ++ [r]) = ends restart k off last l ++ (if (k + l.length) % restart = 0 then [off + (enc restart k last l).length] else []) := by
 induction l with
 | nil => intro k off last; simp [enc, ends]
 | cons a l ih =>
  intro k off last
  simp only [List.cons_append, enc, ends, ih (k + 1) _ a.key, List.append_assoc, List.length_cons, List.length_append]
  rw [show k + 1 + l.length = k + (l.length + 1) by omega]
  congr 2
  split
  ·rw [show off + (rowEnc a (if k % restart = 0 then [] else last)).length + (enc restart (k + 1) a.key l).length = off + ((rowEnc a (if k % restart = 0 then [] else last)).length + (enc restart (k + 1) a.key l).length) by omega]
  ·rfl
theorem fours_append (a b : List Nat) : fours (a ++ b) = fours a ++ fours b := by simp [fours]
theorem rowEnc_le (r : Row) (last : List UInt8) (h : check r = 0) : (rowEnc r last).length ≤ 3000 := by
 obtain ⟨_, _, _, h1, h2, h3, h4⟩ := check_ok h
 have hc := common_le last r.key
 have hd : (r.key.drop (common last r.key)).length ≤ 520 := by rw [List.length_drop]; omega
 have a := putUint_length_ten (n := common last r.key) (by omega)
 have b := putUint_length_ten (n := (r.key.drop (common last r.key)).length) (by omega)
 have c := putUint_length_ten (n := r.seq) (by omega)
 have d := putUint_length_ten (n := r.value.length) (by omega)
 have e : (if r.kind = 1 then putField r.value else []).length ≤ 2058 := by
  split
  ·unfold putField; rw [List.length_append]; omega
  ·simp
 unfold rowEnc
 unfold putField at *
 simp only [List.length_append, List.length_cons, List.length_nil] at *
 omega
theorem enc_mono (restart : Nat) (l m : List Row) (k : Nat) (last : List UInt8) : (enc restart k last l).length ≤ (enc restart k last (l ++ m)).length := by
 obtain ⟨x, hx, _⟩ := enc_append restart l m k last
 rw [hx, List.length_append]; exact Nat.le_add_right _ _
theorem enc_take_le (restart : Nat) (l : List Row) (n k : Nat) (last : List UInt8) : (enc restart k last (l.take n)).length ≤ (enc restart k last l).length := by
 have := enc_mono restart (l.take n) (l.drop n) k last
 rwa [List.take_append_drop] at this
theorem build_far {l : List Row} {restart : Int} (h : ¬ (restart < 1 ∨ 64 < restart ∨ order l = false ∨ ∃ r ∈ l, check r = 2)) {n : Nat} (h2 : 65536 < (enc restart.toNat 0 [] (l.take n)).length) : build l restart = ([], 3) := by
 have h3 := enc_take_le restart.toNat l n 0 []
 have h4 := whole_length l restart.toNat
 have h5 : 65536 < (whole l restart.toNat).length := by omega
 unfold build
 rw [if_neg h, if_pos (.inr (.inr h5))]
section
variable {s last K V : List UInt8} {sh n1 e1 m1 e2 q m2 e3 k e4 : Nat}
theorem read_a (hu : uint s = (sh, n1, e1)) (h : e1 ≠ 0 ∨ last.length < sh) : read s last = none := by
 unfold read; simp only [hu]; rw [if_pos h]
theorem read_b (hu : uint s = (sh, n1, 0)) (h1 : sh ≤ last.length) (hf : field (s.drop n1) 520 = (K, m1, e2)) (h : e2 ≠ 0) : read s last = none := by
 unfold read; simp only [hu, hf]; rw [if_neg (by omega), if_pos h]
theorem read_c (hu : uint s = (sh, n1, 0)) (h1 : sh ≤ last.length) (hf : field (s.drop n1) 520 = (K, m1, 0)) (hv : uint (s.drop (n1 + m1)) = (q, m2, e3)) (h : e3 ≠ 0 ∨ n1 + m1 + m2 = s.length) : read s last = none := by
 unfold read; simp only [hu, hf, hv]; rw [if_neg (by omega), if_neg (by omega), if_pos h]
theorem read_d (hu : uint s = (sh, n1, 0)) (h1 : sh ≤ last.length) (hf : field (s.drop n1) 520 = (K, m1, 0)) (hv : uint (s.drop (n1 + m1)) = (q, m2, 0)) (h : n1 + m1 + m2 ≠ s.length) (hc : s.getD (n1 + m1 + m2) 0 ≠ 1) :
  read s last = some (⟨last.take sh ++ K, q, ((s.getD (n1 + m1 + m2) 0).toNat : Int), []⟩, n1 + m1 + m2 + 1) := by
 unfold read; simp only [hu, hf, hv]; rw [if_neg (by omega), if_neg (by omega), if_neg (by omega), if_neg hc]
theorem read_e (hu : uint s = (sh, n1, 0)) (h1 : sh ≤ last.length) (hf : field (s.drop n1) 520 = (K, m1, 0)) (hv : uint (s.drop (n1 + m1)) = (q, m2, 0)) (h : n1 + m1 + m2 ≠ s.length) (hc : s.getD (n1 + m1 + m2) 0 = 1)
  (hg : field (s.drop (n1 + m1 + m2 + 1)) 2048 = (V, k, e4)) (h4 : e4 ≠ 0) : read s last = none := by
 unfold read; simp only [hu, hf, hv, hg]; rw [if_neg (by omega), if_neg (by omega), if_neg (by omega), if_pos hc, if_pos h4]
theorem read_f (hu : uint s = (sh, n1, 0)) (h1 : sh ≤ last.length) (hf : field (s.drop n1) 520 = (K, m1, 0)) (hv : uint (s.drop (n1 + m1)) = (q, m2, 0)) (h : n1 + m1 + m2 ≠ s.length) (hc : s.getD (n1 + m1 + m2) 0 = 1)
  (hg : field (s.drop (n1 + m1 + m2 + 1)) 2048 = (V, k, 0)) : read s last = some (⟨last.take sh ++ K, q, 1, V⟩, n1 + m1 + m2 + 1 + k) := by
 unfold read; simp only [hu, hf, hv, hg]; rw [if_neg (by omega), if_neg (by omega), if_neg (by omega), if_pos hc, if_neg (by simp)]
end
theorem read_bounds {s last : List UInt8} {r : Row} {n : Nat} (h : read s last = some (r, n)) : 1 ≤ n ∧ n ≤ s.length ∧ r.seq < 18446744073709551616 ∧ r.key.length ≤ last.length + 520 ∧ r.value.length ≤ 2048 := by
 obtain ⟨⟨sh, n1, e1⟩, hu⟩ : ∃ x, uint s = x := ⟨_, rfl⟩
 by_cases h1 : e1 ≠ 0 ∨ last.length < sh
 ·rw [read_a hu h1] at h; cases h
 obtain rfl : e1 = 0 := by omega
 obtain ⟨⟨K, m1, e2⟩, hf⟩ : ∃ x, field (s.drop n1) 520 = x := ⟨_, rfl⟩
 by_cases h2 : e2 = 0
 case neg => rw [read_b hu (by omega) hf h2] at h; cases h
 subst h2
 obtain ⟨⟨q, m2, e3⟩, hv⟩ : ∃ x, uint (s.drop (n1 + m1)) = x := ⟨_, rfl⟩
 have u1 := uint_ok hu
 have f1 := field_ok hf
 rw [List.length_drop] at f1
 by_cases h3 : e3 ≠ 0 ∨ n1 + m1 + m2 = s.length
 ·rw [read_c hu (by omega) hf hv h3] at h; cases h
 obtain rfl : e3 = 0 := by omega
 have u2 := uint_ok hv
 rw [List.length_drop] at u2
 by_cases hc : s.getD (n1 + m1 + m2) 0 = 1
 ·obtain ⟨⟨V, k, e4⟩, hg⟩ : ∃ x, field (s.drop (n1 + m1 + m2 + 1)) 2048 = x := ⟨_, rfl⟩
  by_cases h4 : e4 = 0
  case neg => rw [read_e hu (by omega) hf hv (by omega) hc hg h4] at h; cases h
  subst h4
  rw [read_f hu (by omega) hf hv (by omega) hc hg] at h
  have f2 := field_ok hg
  rw [List.length_drop] at f2
  simp only [Option.some.injEq, Prod.mk.injEq] at h
  obtain ⟨rfl, rfl⟩ := h
  refine ⟨by omega, by omega, u2.2.2.2, ?_, by show V.length ≤ 2048; omega⟩
  show (last.take sh ++ K).length ≤ _
  rw [List.length_append, List.length_take]; omega
 ·rw [read_d hu (by omega) hf hv (by omega) hc] at h
  simp only [Option.some.injEq, Prod.mk.injEq] at h
  obtain ⟨rfl, rfl⟩ := h
  refine ⟨by omega, by omega, u2.2.2.2, ?_, Nat.zero_le _⟩
  show (last.take sh ++ K).length ≤ _
  rw [List.length_append, List.length_take]; omega
def restarts (s : List UInt8) : List Nat := (List.range (unfour (s.drop (s.length - 8)))).map fun j => unfour (s.drop (s.length - 8 - 4 * unfour (s.drop (s.length - 8)) + 4 * j))
theorem unfour_lt (l : List UInt8) : unfour l < 4294967296 := by
 have h := fun c : UInt8 => c.toNat_lt
 have a := h (l.getD 0 0)
 have b := h (l.getD 1 0)
 have c := h (l.getD 2 0)
 have d := h (l.getD 3 0)
 unfold unfour
 omega
theorem rows_of {s : List UInt8} (h : ¬ (s.length < 8 ∨ 65536 < s.length ∨ (s.length - 8) / 4 < unfour (s.drop (s.length - 8)))) :
  rows s = match decode (s.length + 1) (body s) [] 0 with | none => ([], 7) | some l => if build l (unfour (s.drop (s.length - 4)) : Int) = (s, 0) then (l, 0) else ([], 7) := by
 unfold rows; rw [if_neg h]; first | done | rfl
theorem rows_some {s : List UInt8} (h : ¬ (s.length < 8 ∨ 65536 < s.length ∨ (s.length - 8) / 4 < unfour (s.drop (s.length - 8)))) {l : List Row} (hd : decode (s.length + 1) (body s) [] 0 = some l) :
  rows s = if build l (unfour (s.drop (s.length - 4)) : Int) = (s, 0) then (l, 0) else ([], 7) := by
 rw [rows_of h, hd]
theorem rows_none {s : List UInt8} (h : ¬ (s.length < 8 ∨ 65536 < s.length ∨ (s.length - 8) / 4 < unfour (s.drop (s.length - 8)))) (hd : decode (s.length + 1) (body s) [] 0 = none) : rows s = ([], 7) := by
 rw [rows_of h, hd]
theorem rows_bad {s : List UInt8} (h : s.length < 8 ∨ 65536 < s.length ∨ (s.length - 8) / 4 < unfour (s.drop (s.length - 8))) : rows s = ([], 7) := by
 unfold rows; rw [if_pos h]
theorem decode_go {fuel : Nat} {b last : List UInt8} {hv : Nat} (h : b ≠ []) {r : Row} {n : Nat} (hr : read b last = some (r, n)) (h1 : hv ≠ 1024) : decode (fuel + 1) b last hv = (decode fuel (b.drop n) r.key (hv + 1)).map (r :: ·) := by
 rw [decode, if_neg h, hr]; simp only; rw [if_neg h1]
theorem decode_bad {fuel : Nat} {b last : List UInt8} {hv : Nat} (h : b ≠ []) (hr : read b last = none) : decode (fuel + 1) b last hv = none := by
 rw [decode, if_neg h, hr]
theorem decode_many {fuel : Nat} {b last : List UInt8} {hv : Nat} (h : b ≠ []) {r : Row} {n : Nat} (hr : read b last = some (r, n)) (h1 : hv = 1024) : decode (fuel + 1) b last hv = none := by
 rw [decode, if_neg h, hr]; simp only; rw [if_pos h1]
theorem decode_end {fuel : Nat} {last : List UInt8} {hv : Nat} : decode (fuel + 1) [] last hv = some [] := by rw [decode, if_pos rfl]
end PBlock
-- PTable
namespace PTable
open PCode PBlock
structure Part where
 first : List UInt8
 last : List UInt8
 seq : Nat
 rows : Nat
 from_ : Nat
 to : Nat
def low : Nat → Nat → List UInt8
 | _, 0 => []
 | n, k + 1 => UInt8.ofNat (n % 256) :: low (n / 256) k
theorem low_length (k : Nat) : ∀ n, (low n k).length = k := by
 induction k with
 | zero => intro n; rfl
 | succ k ih => intro n; rw [low, List.length_cons, ih]
theorem low_get (k : Nat) : ∀ n i, i < k → (low n k)[i]? = some (UInt8.ofNat (n / 256 ^ i % 256)) := by
 induction k with
 | zero => intro n i h; omega
 | succ k ih =>
  intro n i h
  cases i with
  | zero => simp [low]
  | succ i =>
   rw [low, List.getElem?_cons_succ, ih _ _ (by omega), Nat.div_div_eq_div_mul, ← Nat.pow_succ']
theorem low_snoc (k n : Nat) : low n (k + 1) = low n k ++ [UInt8.ofNat (n / 256 ^ k % 256)] := by
 apply List.ext_getElem?
 intro i
 by_cases h : i < k
 ·rw [low_get _ _ _ (by omega), List.getElem?_append_left (by rw [low_length]; exact h), low_get _ _ _ h]
 ·by_cases h1 : i = k
  ·subst h1
   rw [low_get _ _ _ (by omega), List.getElem?_append_right (by rw [low_length]; omega), low_length]
   simp
  ·rw [List.getElem?_eq_none (by rw [low_length]; omega), List.getElem?_eq_none (by rw [List.length_append, low_length, List.length_singleton]; omega)]
def unlow : List UInt8 → Nat
 | [] => 0
 | c :: l => c.toNat + 256 * unlow l
theorem unlow_low (k : Nat) : ∀ n, n < 256 ^ k → unlow (low n k) = n := by
 induction k with
 | zero => intro n h; simp at h; subst h; rfl
 | succ k ih =>
  intro n h
  rw [low, unlow, ih _ (by rw [Nat.pow_succ] at h; omega), toNat_ofNat_lt (by omega)]
  omega
theorem unlow_lt (l : List UInt8) : unlow l < 256 ^ l.length := by
 induction l with
 | nil => simp [unlow]
 | cons c l ih =>
  rw [unlow, List.length_cons, Nat.pow_succ]
  have := c.toNat_lt
  omega
theorem low_four (u : BitVec 32) : low u.toNat 4 = PCrc.le4 u := by
 have h := u.isLt
 unfold PCrc.le4
 simp only [low, Nat.div_div_eq_div_mul, Nat.reduceMul]
 rw [Nat.mod_eq_of_lt (show u.toNat / 16777216 < 256 by omega)]
def foot (f i : Nat) : List UInt8 := low f 8 ++ low i 8 ++ PFrame.mark (low f 8 ++ low i 8)
theorem foot_length (f i : Nat) : (foot f i).length = 20 := by
 unfold foot
 rw [List.length_append, List.length_append, low_length, low_length, PFrame.seal_length]
def one (s : List UInt8) : List UInt8 × Bool := ((PFrame.get s).1, (PFrame.get s).2.2 == 0 && (PFrame.get s).2.1 == s.length)
def right (l : List Row) (B R Q : Int) : Nat :=
 if B < 64 ∨ 16384 < B ∨ R < 1 ∨ 64 < R ∨ Q < 1 ∨ 32 < Q ∨ order l = false ∨ (∃ r ∈ l, check r = 2) then 2 else if ∃ r ∈ l, check r = 3 then 3 else 0
def fits (l : List Row) (B R : Int) (n : Nat) : Bool := (build (l.take n) R).2 == 0 && decide (((build (l.take n) R).1.length : Int) ≤ B)
def cutAt (l : List Row) (B R : Int) : Nat → Nat → Nat
 | 0, n => n
 | k + 1, n => if n < l.length ∧ fits l B R (n + 1) = true then cutAt l B R k (n + 1) else n
def cut (l : List Row) (B R : Int) : Nat := cutAt l B R l.length 1
theorem cutAt_ge (l : List Row) (B R : Int) (k : Nat) : ∀ n, n ≤ cutAt l B R k n := by
 induction k with
 | zero => intro n; exact Nat.le_refl _
 | succ k ih =>
  intro n
  rw [cutAt]
  split
  ·have := ih (n + 1); omega
  ·omega
theorem cutAt_le (l : List Row) (B R : Int) (k : Nat) : ∀ n, n ≤ l.length → cutAt l B R k n ≤ l.length := by
 induction k with
 | zero => intro n h; exact h
 | succ k ih =>
  intro n h
  rw [cutAt]
  split
  ·rename_i h1; exact ih (n + 1) (by omega)
  ·exact h
theorem cut_pos (l : List Row) (B R : Int) : 1 ≤ cut l B R := cutAt_ge ..
theorem cut_le {l : List Row} (h : l ≠ []) (B R : Int) : cut l B R ≤ l.length := cutAt_le _ _ _ _ _ (by have := List.length_pos_iff.2 h; omega)
theorem cutAt_ok (l : List Row) (B R : Int) (k : Nat) : ∀ n, (build (l.take n) R).2 = 0 → (build (l.take (cutAt l B R k n)) R).2 = 0 := by
 induction k with
 | zero => intro n h; exact h
 | succ k ih =>
  intro n h
  rw [cutAt]
  split
  ·rename_i h1
   refine ih (n + 1) ?_
   have := h1.2
   unfold fits at this
   simp only [Bool.and_eq_true, beq_iff_eq] at this
   exact this.1
  ·exact h
def chunksAt (B R : Int) : Nat → List Row → List (List Row)
 | 0, _ => []
 | k + 1, l => if l = [] then [] else l.take (cut l B R) :: chunksAt B R k (l.drop (cut l B R))
def chunks (l : List Row) (B R : Int) : List (List Row) := chunksAt B R l.length l
theorem chunksAt_more (B R : Int) (k : Nat) : ∀ (l : List Row) (j : Nat), l.length ≤ k → l.length ≤ j → chunksAt B R k l = chunksAt B R j l := by
 induction k with
 | zero =>
  intro l j h _
  obtain rfl : l = [] := List.eq_nil_of_length_eq_zero (by omega)
  cases j with
  | zero => rfl
  | succ j => rw [chunksAt, chunksAt, if_pos rfl]
 | succ k ih =>
  intro l j h hj
  cases j with
  | zero =>
   obtain rfl : l = [] := List.eq_nil_of_length_eq_zero (by omega)
   rw [chunksAt, chunksAt, if_pos rfl]
  | succ j =>
   rw [chunksAt, chunksAt]
   by_cases e : l = []
   ·rw [if_pos e, if_pos e]
   ·rw [if_neg e, if_neg e]
    have h1 := cut_pos l B R
    congr 1
    exact ih _ _ (by rw [List.length_drop]; omega) (by rw [List.length_drop]; omega)
theorem chunks_cons {l : List Row} (h : l ≠ []) (B R : Int) : chunks l B R = l.take (cut l B R) :: chunks (l.drop (cut l B R)) B R := by
 unfold chunks
 obtain ⟨n, hn⟩ : ∃ n, l.length = n + 1 := ⟨l.length - 1, by have := List.length_pos_iff.2 h; omega⟩
 rw [hn, chunksAt, if_neg h]
 congr 1
 have h1 := cut_pos l B R
 exact chunksAt_more _ _ _ _ _ (by rw [List.length_drop]; omega) (Nat.le_refl _)
def frameOf (R : Int) (c : List Row) : List UInt8 := (PFrame.put (build c R).1).1
def bodyOf (R : Int) (cs : List (List Row)) : List UInt8 := (cs.map (frameOf R)).flatten
theorem bodyOf_snoc (R : Int) (cs : List (List Row)) (c : List Row) : bodyOf R (cs ++ [c]) = bodyOf R cs ++ frameOf R c := by simp [bodyOf]
def zeroRow : Row := ⟨[], 0, 0, []⟩
def entry (at_ : Nat) (c : List Row) : Row := ⟨(c.getLastD zeroRow).key, (c.getLastD zeroRow).seq, 1, putField (c.headD zeroRow).key ++ putUint at_ ++ putUint c.length⟩
def indexAt (R : Int) : Nat → List (List Row) → List Row
 | _, [] => []
 | at_, c :: cs => entry at_ c :: indexAt R (at_ + (frameOf R c).length) cs
def index (R : Int) (cs : List (List Row)) : List Row := indexAt R 0 cs
theorem indexAt_snoc (R : Int) (c : List Row) : ∀ (cs : List (List Row)) (at_ : Nat), indexAt R at_ (cs ++ [c]) = indexAt R at_ cs ++ [entry (at_ + (bodyOf R cs).length) c] := by
 intro cs
 induction cs with
 | nil => intro at_; simp [indexAt, bodyOf]
 | cons d cs ih =>
  intro at_
  rw [List.cons_append, indexAt, ih, indexAt]
  simp [bodyOf, Nat.add_assoc]
theorem index_snoc (R : Int) (cs : List (List Row)) (c : List Row) : index R (cs ++ [c]) = index R cs ++ [entry (bodyOf R cs).length c] := by
 unfold index
 rw [indexAt_snoc, Nat.zero_add]
def keysTo (l : List Row) : Nat → List (List UInt8)
 | 0 => []
 | i + 1 => keysTo l i ++ (if i = 0 ∨ (l.getD (i - 1) zeroRow).key ≠ (l.getD i zeroRow).key then [(l.getD i zeroRow).key] else [])
def keys (l : List Row) : List (List UInt8) := keysTo l l.length
theorem keysTo_length (l : List Row) (i : Nat) : (keysTo l i).length ≤ i := by
 induction i with
 | zero => exact Nat.le_refl _
 | succ i ih =>
  rw [keysTo, List.length_append]
  split
  ·simp; omega
  ·simp; omega
theorem keysTo_mem (l : List Row) (i : Nat) : ∀ j, j < i → (l.getD j zeroRow).key ∈ keysTo l i := by
 induction i with
 | zero => intro j h; omega
 | succ i ih =>
  intro j h
  rw [keysTo]
  by_cases hj : j < i
  ·exact List.mem_append_left _ (ih j hj)
  ·obtain rfl : j = i := by omega
   by_cases hc : j = 0 ∨ (l.getD (j - 1) zeroRow).key ≠ (l.getD j zeroRow).key
   ·rw [if_pos hc]; simp
   ·refine List.mem_append_left _ ?_
    have h1 : (l.getD (j - 1) zeroRow).key = (l.getD j zeroRow).key := Classical.byContradiction fun e => hc (.inr e)
    have h2 : j ≠ 0 := fun e => hc (.inl e)
    rw [← h1]
    exact ih _ (by omega)
theorem keys_mem {l : List Row} {r : Row} (h : r ∈ l) : r.key ∈ keys l := by
 obtain ⟨j, hj, rfl⟩ := List.getElem_of_mem h
 have := keysTo_mem l l.length j hj
 rwa [List.getD_eq_getElem?_getD, List.getElem?_eq_getElem hj] at this
def whole (R : Int) (cs : List (List Row)) (F : List UInt8) : List UInt8 :=
 bodyOf R cs ++ (PFrame.put F).1 ++ (PFrame.put (build (index R cs) 1).1).1 ++ foot (bodyOf R cs).length ((bodyOf R cs).length + (PFrame.put F).1.length)
def table (l : List Row) (B R Q : Int) (F : List UInt8) : List UInt8 × Nat :=
 if right l B R Q ≠ 0 then ([], right l B R Q)
 else if (build (index R (chunks l B R)) 1).2 ≠ 0 ∨ 262144 < (whole R (chunks l B R) F).length then ([], 3)
 else (whole R (chunks l B R) F, 0)
structure Tab where
 s : List UInt8
 filter : List UInt8
 parts : List Part
def entryOf (r : Row) : Option Part :=
 if (field r.value 520).2.2 = 0 ∧ (uint (r.value.drop (field r.value 520).2.1)).2.2 = 0 ∧
   (uint (r.value.drop ((field r.value 520).2.1 + (uint (r.value.drop (field r.value 520).2.1)).2.1))).2.2 = 0 ∧
   (field r.value 520).2.1 + (uint (r.value.drop (field r.value 520).2.1)).2.1 + (uint (r.value.drop ((field r.value 520).2.1 + (uint (r.value.drop (field r.value 520).2.1)).2.1))).2.1 = r.value.length ∧
   r.kind = 1 ∧ (uint (r.value.drop (field r.value 520).2.1)).1 ≤ 262144 ∧
   1 ≤ (uint (r.value.drop ((field r.value 520).2.1 + (uint (r.value.drop (field r.value 520).2.1)).2.1))).1 ∧ (uint (r.value.drop ((field r.value 520).2.1 + (uint (r.value.drop (field r.value 520).2.1)).2.1))).1 ≤ 1024
 then some ⟨(field r.value 520).1, r.key, r.seq, (uint (r.value.drop ((field r.value 520).2.1 + (uint (r.value.drop (field r.value 520).2.1)).2.1))).1, (uint (r.value.drop (field r.value 520).2.1)).1, 0⟩
 else none
def setTo : List Part → Nat → List Part
 | [], _ => []
 | [p], x => [{ p with to := x }]
 | p :: q :: l, x => p :: setTo (q :: l) x
theorem setTo_snoc (l : List Part) (p : Part) (x : Nat) : setTo (l ++ [p]) x = l ++ [{ p with to := x }] := by
 induction l with
 | nil => rfl
 | cons q l ih =>
  cases l with
  | nil => rfl
  | cons r l => simp only [List.cons_append, setTo] at ih ⊢; rw [ih]
theorem setTo_length (l : List Part) (x : Nat) : (setTo l x).length = l.length := by
 induction l with
 | nil => rfl
 | cons q l ih =>
  cases l with
  | nil => rfl
  | cons r l => simp only [setTo, List.length_cons] at ih ⊢; rw [ih]
def beginsOk : Option Nat → Nat → Bool
 | none, x => x == 0
 | some b, x => decide (b < x)
def partsOf (at_ : Nat) : List Part → Option Nat → List Row → Option (List Part)
 | ps, _, [] => some ps
 | ps, b, r :: l =>
  match entryOf r with
  | none => none
  | some x => if beginsOk b x.from_ = true ∧ x.from_ ≤ at_ then partsOf at_ (setTo ps x.from_ ++ [{ x with to := at_ }]) (some x.from_) l else none
def open_ (chk : List UInt8 → Bool) (s : List UInt8) : Option Tab :=
 if s.length < 20 ∨ 262144 < s.length then none
 else
  let e := s.length - 20
  let i := unlow ((s.drop (e + 8)).take 8)
  let a := unlow ((s.drop e).take 8)
  if ¬ (i ≤ e ∧ a ≤ i ∧ s.drop e = foot a i) then none
  else
   let f := one ((s.drop a).take (i - a))
   let p := one ((s.drop i).take (e - i))
   if ¬ (f.2 = true ∧ p.2 = true ∧ (rows p.1).2 = 0 ∧ chk f.1 = true) then none
   else match partsOf a [] none (rows p.1).1 with
    | none => none
    | some ps => if (rows p.1).1 = [] ∧ a ≠ 0 then none else some ⟨s, f.1, ps⟩
def readT (s : List UInt8) (p : Part) : Option (List Row) :=
 let b := one ((s.drop p.from_).take (p.to - p.from_))
 if b.2 = true ∧ (rows b.1).2 = 0 ∧ (rows b.1).1.length = p.rows ∧ ((rows b.1).1.headD zeroRow).key = p.first ∧ ((rows b.1).1.getLastD zeroRow).key = p.last ∧ ((rows b.1).1.getLastD zeroRow).seq = p.seq
 then some (rows b.1).1 else none
def behind (key : List UInt8) (at_ : Nat) (k : List UInt8) (seq : Nat) : Bool := lt key k || (k == key && decide (seq ≤ at_))
def get (has : List UInt8 → List UInt8 → Bool) (t : Tab) (key : List UInt8) (at_ : Nat) : Row × Bool × Nat :=
 if has t.filter key = false then (zeroRow, false, 0)
 else match t.parts.find? (fun p => behind key at_ p.last p.seq) with
  | none => (zeroRow, false, 0)
  | some p => match readT t.s p with
   | none => (zeroRow, false, 10)
   | some l => match l.find? (fun r => behind key at_ r.key r.seq) with
    | none => (zeroRow, false, 0)
    | some r => if r.key = key then (r, true, 0) else (zeroRow, false, 0)
end PTable
-- PTable2
namespace PTable
open PCode PBlock
theorem one_put {p : List UInt8} (h : p.length ≤ 65536) : one (PFrame.put p).1 = (p, true) := by
 have hg := PFrame.get_put p [] h
 rw [List.append_nil] at hg
 unfold one
 rw [hg]
 simp
def partsW (R : Int) : Nat → List (List Row) → List Part
 | _, [] => []
 | p, c :: cs => ⟨(c.headD zeroRow).key, (c.getLastD zeroRow).key, (c.getLastD zeroRow).seq, c.length, p, p + (frameOf R c).length⟩ :: partsW R (p + (frameOf R c).length) cs
theorem entryOf_entry (p : Nat) (c : List Row) (hp : p ≤ 262144) (h1 : 1 ≤ c.length) (h2 : c.length ≤ 1024) (hk : (c.headD zeroRow).key.length ≤ 520) :
  entryOf (entry p c) = some ⟨(c.headD zeroRow).key, (c.getLastD zeroRow).key, (c.getLastD zeroRow).seq, c.length, p, 0⟩ := by
 have hv : (entry p c).value = putField (c.headD zeroRow).key ++ (putUint p ++ (putUint c.length ++ [])) := by
  unfold entry
  simp
 have hf := field_put (c.headD zeroRow).key (putUint p ++ (putUint c.length ++ [])) 520 (by omega) (by omega)
 rw [← hv] at hf
 have hd1 : (entry p c).value.drop (putField (c.headD zeroRow).key).length = putUint p ++ (putUint c.length ++ []) := by rw [hv, List.drop_left]
 have hu := uint_put (n := p) (by omega) (putUint c.length ++ [])
 have hd2 : (entry p c).value.drop ((putField (c.headD zeroRow).key).length + (putUint p).length) = putUint c.length ++ [] := by rw [← List.drop_drop, hd1, List.drop_left]
 have hw := uint_put (n := c.length) (by omega) []
 have hl : (entry p c).value.length = (putField (c.headD zeroRow).key).length + (putUint p).length + (putUint c.length).length := by rw [hv]; simp; omega
 unfold entryOf
 rw [hf]
 dsimp only
 rw [hd1, hu]
 dsimp only
 rw [hd2, hw]
 dsimp only
 rw [if_pos ⟨rfl, rfl, rfl, hl.symm, rfl, hp, h1, h2⟩]
 rfl
structure Chunk (R : Int) (c : List Row) : Prop where
 pos : 1 ≤ c.length
 le : c.length ≤ 1024
 key : (c.headD zeroRow).key.length ≤ 520
 built : (build c R).2 = 0
theorem frameOf_pos {R : Int} {c : List Row} (h : Chunk R c) : 5 ≤ (frameOf R c).length := by
 unfold frameOf
 exact PFrame.put_length_pos (build_ok (s := (build c R).1) (Prod.ext rfl h.built)).2.2.2.2.2.2
theorem bodyOf_cons (R : Int) (c : List Row) (cs : List (List Row)) : (bodyOf R (c :: cs)).length = (frameOf R c).length + (bodyOf R cs).length := by simp [bodyOf]
theorem partsOf_go (R : Int) (at_ : Nat) (hat : at_ ≤ 262144) : ∀ (cs : List (List Row)) (p b : Nat) (ps : List Part) (x : Part), (∀ c ∈ cs, Chunk R c) → b < p → at_ = p + (bodyOf R cs).length → x.to = at_ →
  partsOf at_ (ps ++ [x]) (some b) (indexAt R p cs) = some (ps ++ [{ x with to := p }] ++ partsW R p cs) := by
 intro cs
 induction cs with
 | nil =>
  intro p b ps x _ _ ha hx
  have hp : p = x.to := by rw [hx, ha]; simp [bodyOf]
  subst hp
  simp [indexAt, partsOf, partsW]
 | cons c cs ih =>
  intro p b ps x hc hb ha hx
  have h1 := hc c (by simp)
  have h5 := frameOf_pos h1
  rw [bodyOf_cons] at ha
  rw [indexAt, partsOf, entryOf_entry p c (by omega) h1.pos h1.le h1.key]
  dsimp only
  rw [if_pos ⟨by simp [beginsOk, hb], by omega⟩, setTo_snoc, ih _ p _ _ (fun c hc' => hc c (List.mem_cons_of_mem _ hc')) (by omega) (by omega) rfl, partsW]
  simp
theorem partsOf_index (R : Int) (cs : List (List Row)) (hc : ∀ c ∈ cs, Chunk R c) (hat : (bodyOf R cs).length ≤ 262144) : partsOf (bodyOf R cs).length [] none (index R cs) = some (partsW R 0 cs) := by
 unfold index
 cases cs with
 | nil => rfl
 | cons c cs =>
  have h1 := hc c (by simp)
  have h5 := frameOf_pos h1
  have hl := bodyOf_cons R c cs
  rw [indexAt, partsOf, entryOf_entry 0 c (by omega) h1.pos h1.le h1.key]
  dsimp only
  rw [if_pos ⟨rfl, by omega⟩]
  have := partsOf_go R (bodyOf R (c :: cs)).length hat cs (0 + (frameOf R c).length) 0 [] ⟨(c.headD zeroRow).key, (c.getLastD zeroRow).key, (c.getLastD zeroRow).seq, c.length, 0, (bodyOf R (c :: cs)).length⟩ (fun c hc' => hc c (List.mem_cons_of_mem _ hc')) (by omega) (by omega) rfl
  simp only [setTo, List.nil_append] at this ⊢
  rw [this, partsW]
  simp
theorem foot_at (a i : Nat) (ha : a < 18446744073709551616) (hi : i < 18446744073709551616) : unlow ((foot a i).take 8) = a ∧ unlow (((foot a i).drop 8).take 8) = i := by
 have h1 := low_length 8 a
 have h2 := low_length 8 i
 unfold foot
 rw [List.append_assoc]
 constructor
 ·rw [List.take_left' h1]
  exact unlow_low 8 a (by omega)
 ·rw [List.drop_left' h1, List.take_left' h2]
  exact unlow_low 8 i (by omega)
theorem open_whole (chk : List UInt8 → Bool) (R : Int) (cs : List (List Row)) (F : List UInt8) (hF : chk F = true) (hFl : F.length ≤ 65536) (hi : (build (index R cs) 1).2 = 0) (hl : (whole R cs F).length ≤ 262144) (hc : ∀ c ∈ cs, Chunk R c) :
  open_ chk (whole R cs F) = some ⟨whole R cs F, F, partsW R 0 cs⟩ := by
 have hb : build (index R cs) 1 = ((build (index R cs) 1).1, 0) := Prod.ext rfl hi
 have hbl := (build_ok hb).2.2.2.2.2.2
 have hrows := rows_build hb
 have h1 := one_put hFl
 have h2 := one_put hbl
 have hpi := fun (h : (bodyOf R cs).length ≤ 262144) => partsOf_index R cs hc h
 have hft := foot_length (bodyOf R cs).length ((bodyOf R cs).length + (PFrame.put F).1.length)
 have hw : whole R cs F = bodyOf R cs ++ ((PFrame.put F).1 ++ ((PFrame.put (build (index R cs) 1).1).1 ++ foot (bodyOf R cs).length ((bodyOf R cs).length + (PFrame.put F).1.length))) := by simp [whole]
 generalize (build (index R cs) 1).1 = ib at hrows h2 hw
 generalize (PFrame.put ib).1 = g at h2 hw
 generalize (PFrame.put F).1 = f at h1 hw hft
 obtain ⟨W, hW⟩ : ∃ W, whole R cs F = W := ⟨_, rfl⟩
 rw [hW] at hw hl ⊢
 generalize hB : bodyOf R cs = B at hpi hft hw
 have hlen : W.length = B.length + (f.length + (g.length + 20)) := by rw [hw]; simp only [List.length_append, hft]
 have hfa := foot_at B.length (B.length + f.length) (by omega) (by omega)
 generalize hFT : foot B.length (B.length + f.length) = FT at hft hw hfa
 have d0 : W.drop B.length = f ++ (g ++ FT) := by rw [hw, List.drop_left]
 have d1 : W.drop (B.length + f.length) = g ++ FT := by rw [← List.drop_drop, d0, List.drop_left]
 have d2 : W.drop (B.length + f.length + g.length) = FT := by rw [← List.drop_drop, d1, List.drop_left]
 have d3 : W.drop (B.length + f.length + g.length + 8) = FT.drop 8 := by rw [← List.drop_drop, d2]
 have he : W.length - 20 = B.length + f.length + g.length := by omega
 unfold open_
 rw [if_neg (by omega), he]
 dsimp only
 rw [d3, d2, hfa.1, hfa.2, d0, d1]
 rw [if_neg (fun h => h ⟨by omega, by omega, hFT.symm⟩)]
 rw [show (f ++ (g ++ FT)).take (B.length + f.length - B.length) = f by rw [Nat.add_sub_cancel_left, List.take_left], show (g ++ FT).take (B.length + f.length + g.length - (B.length + f.length)) = g by rw [Nat.add_sub_cancel_left, List.take_left]]
 rw [h1, h2]
 dsimp only
 rw [hrows]
 dsimp only
 rw [if_neg (fun h => h ⟨rfl, rfl, rfl, hF⟩), hpi (by omega)]
 dsimp only
 rw [if_neg]
 rintro ⟨hz, ha⟩
 cases cs with
 | nil => rw [← hB] at ha; exact ha rfl
 | cons c cs => cases hz
theorem chunksAt_flat (B R : Int) (k : Nat) : ∀ l : List Row, l.length ≤ k → (chunksAt B R k l).flatten = l := by
 induction k with
 | zero =>
  intro l h
  rw [List.eq_nil_of_length_eq_zero (by omega : l.length = 0)]
  rfl
 | succ k ih =>
  intro l h
  rw [chunksAt]
  by_cases e : l = []
  ·rw [if_pos e, e]; rfl
  ·have h1 := cut_pos l B R
   rw [if_neg e, List.flatten_cons, ih _ (by rw [List.length_drop]; omega), List.take_append_drop]
theorem chunks_flat (l : List Row) (B R : Int) : (chunks l B R).flatten = l := chunksAt_flat B R _ l (Nat.le_refl _)
theorem chunksAt_all (P : List Row → Prop) (B R : Int) (Q : List Row → Prop) (hd : ∀ l, Q l → Q (l.drop (cut l B R))) (hP : ∀ l, l ≠ [] → Q l → P (l.take (cut l B R))) (k : Nat) : ∀ l, Q l → ∀ c ∈ chunksAt B R k l, P c := by
 induction k with
 | zero => intro l _ c hc; cases hc
 | succ k ih =>
  intro l hl c hc
  rw [chunksAt] at hc
  split at hc
  ·cases hc
  ·rename_i e
   rcases List.mem_cons.1 hc with rfl | hc
   ·exact hP l e hl
   ·exact ih _ (hd l hl) c hc
theorem one_ok {l : List Row} (hc : ∀ r ∈ l, check r = 0) (R : Int) (h1 : 1 ≤ R) (h2 : R ≤ 64) : (build (l.take 1) R).2 = 0 := by
 cases l with
 | nil =>
  rw [List.take_nil, build_of h1 h2 rfl (by simp) (by simp) (by rw [whole_length]; simp [enc, ends])]
 | cons r l =>
  rw [show (r :: l).take 1 = [r] from rfl]
  have hr := hc r (by simp)
  rw [build_of h1 h2 rfl (by simpa using hr) (by simp) ?_]
  rw [whole_length]
  have a := ends_length_le R.toNat [r] 0 0 []
  have b : (enc R.toNat 0 [] [r]).length ≤ 3000 := by
   have := rowEnc_le r [] hr
   simpa [enc] using this
  rw [List.length_singleton] at a
  omega
theorem chunks_ok {l : List Row} (B R : Int) (h1 : 1 ≤ R) (h2 : R ≤ 64) (hc : ∀ r ∈ l, check r = 0) : ∀ c ∈ chunks l B R, Chunk R c := by
 refine chunksAt_all (Chunk R) B R (fun l => ∀ r ∈ l, check r = 0) (fun l h r hr => h r (List.mem_of_mem_drop hr)) (fun l hne h => ?_) _ l hc
 have hn := cut_pos l B R
 have hlp := List.length_pos_iff.2 hne
 have hb := cutAt_ok l B R l.length 1 (one_ok h R h1 h2)
 have hbo := build_ok (l := l.take (cut l B R)) (s := (build (l.take (cut l B R)) R).1) (Prod.ext rfl hb)
 refine ⟨by rw [List.length_take]; omega, hbo.2.2.2.2.1, ?_, hb⟩
 cases l with
 | nil => exact absurd rfl hne
 | cons r l =>
  obtain ⟨m, hm⟩ : ∃ m, cut (r :: l) B R = m + 1 := ⟨cut (r :: l) B R - 1, by omega⟩
  rw [hm, List.take_succ_cons]
  exact (check_ok (h r (by simp))).2.2.2.2.2.1
theorem readT_of {R : Int} {S a b : List UInt8} {c : List Row} (hS : S = a ++ (frameOf R c ++ b)) (hC : Chunk R c) :
  readT S ⟨(c.headD zeroRow).key, (c.getLastD zeroRow).key, (c.getLastD zeroRow).seq, c.length, a.length, a.length + (frameOf R c).length⟩ = some c := by
 have hb : build c R = ((build c R).1, 0) := Prod.ext rfl hC.built
 have hl := (build_ok hb).2.2.2.2.2.2
 have h1 := one_put hl
 have hr := rows_build hb
 have hd : S.drop a.length = frameOf R c ++ b := by rw [hS, List.drop_left]
 unfold readT
 dsimp only
 rw [hd, Nat.add_sub_cancel_left, List.take_left]
 unfold frameOf
 rw [h1]
 dsimp only
 rw [hr]
 dsimp only
 rw [if_pos ⟨rfl, rfl, rfl, rfl, rfl, rfl⟩]
theorem parts_read (R : Int) (S b : List UInt8) : ∀ (cs : List (List Row)) (a : List UInt8), S = a ++ (bodyOf R cs ++ b) → (∀ c ∈ cs, Chunk R c) → (partsW R a.length cs).map (readT S) = cs.map some := by
 intro cs
 induction cs with
 | nil => intro a _ _; rfl
 | cons c cs ih =>
  intro a hS hc
  have hS2 : S = a ++ (frameOf R c ++ (bodyOf R cs ++ b)) := by rw [hS]; simp [bodyOf]
  have h := ih (a ++ frameOf R c) (by rw [hS2]; simp) (fun d hd => hc d (List.mem_cons_of_mem _ hd))
  rw [List.length_append] at h
  rw [partsW, List.map_cons, List.map_cons, readT_of hS2 (hc c (by simp)), h]
theorem partsW_length (R : Int) (cs : List (List Row)) : ∀ p, (partsW R p cs).length = cs.length := by
 induction cs with
 | nil => intro p; rfl
 | cons c cs ih => intro p; rw [partsW, List.length_cons, List.length_cons, ih]
theorem partsW_bounds (R : Int) : ∀ (cs : List (List Row)) (p n : Nat), (∀ c ∈ cs, Chunk R c) → p + (bodyOf R cs).length ≤ n → ∀ x ∈ partsW R p cs, x.from_ ≤ x.to ∧ x.to ≤ n ∧ 1 ≤ x.rows ∧ x.rows ≤ 1024 := by
 intro cs
 induction cs with
 | nil => intro p n _ _ x hx; cases hx
 | cons c cs ih =>
  intro p n hc hn x hx
  rw [bodyOf_cons] at hn
  have h1 := hc c (by simp)
  rw [partsW] at hx
  rcases List.mem_cons.1 hx with rfl | hx
  ·exact ⟨Nat.le_add_right _ _, by show p + (frameOf R c).length ≤ n; omega, h1.pos, h1.le⟩
  ·exact ih _ n (fun d hd => hc d (List.mem_cons_of_mem _ hd)) (by omega) x hx
end PTable
-- PTable3
namespace PTable
open PCode PBlock
theorem behind_iff (key : List UInt8) (n : Nat) (k : List UInt8) (q : Nat) : behind key n k q = true ↔ lt key k = true ∨ (k = key ∧ q ≤ n) := by
 unfold behind
 rw [Bool.or_eq_true, Bool.and_eq_true, beq_iff_eq, decide_eq_true_eq]
theorem lt_irr (k : List UInt8) : lt k k = false := by
 cases h : lt k k with
 | false => rfl
 | true => rw [lt_asymm h] at h; cases h
theorem behind_ahead (r : Row) (key : List UInt8) (n : Nat) : behind key n r.key r.seq = !ahead r key n := by
 rw [Bool.eq_iff_iff, behind_iff, Bool.not_eq_true', ← Bool.not_eq_true, ahead_iff]
 have hx : lt key r.key = true → ¬ (lt r.key key = true ∨ (r.key = key ∧ n < r.seq)) := by
  rintro h (h2 | h2)
  ·rw [lt_asymm h] at h2; cases h2
  ·rw [h2.1, lt_irr] at h; cases h
 have hy : lt r.key key = true → ¬ (lt key r.key = true ∨ (r.key = key ∧ r.seq ≤ n)) := by
  rintro h (h2 | h2)
  ·rw [lt_asymm h] at h2; cases h2
  ·rw [h2.1, lt_irr] at h; cases h
 rcases lt_total key r.key with h | h | h
 ·exact ⟨fun _ => hx h, fun _ => .inl h⟩
 ·subst h
  rw [lt_irr]
  constructor
  ·rintro (h | h) (h2 | h2)
   ·cases h
   ·cases h
   ·cases h2
   ·omega
  ·intro h
   exact .inr ⟨rfl, Classical.byContradiction fun h2 => h (.inr ⟨rfl, by omega⟩)⟩
 ·exact ⟨fun h2 => absurd h2 (hy h), fun h2 => absurd (.inl h) h2⟩
theorem order_pair {l : List Row} (h : order l = true) : l.Pairwise (fun a b => ahead a b.key b.seq = true) := by
 induction l with
 | nil => exact .nil
 | cons a l ih => exact .cons (order_all h) (ih (order_tail h))
theorem order_behind {l : List Row} (h : order l = true) (key : List UInt8) (n : Nat) : l.Pairwise (fun a b => behind key n a.key a.seq = true → behind key n b.key b.seq = true) := by
 refine (order_pair h).imp fun {a b} hab h1 => ?_
 rw [behind_ahead] at h1 ⊢
 cases hb : ahead b key n with
 | false => rfl
 | true => rw [ahead_trans hab hb] at h1; cases h1
theorem order_key {a b : Row} (h : ahead a b.key b.seq = true) : lt b.key a.key = false := by
 rcases (ahead_iff _ _ _).1 h with h | h
 ·exact lt_asymm h
 ·rw [h.1]; exact lt_irr _
theorem lt_le {a b c : List UInt8} (h1 : lt a b = true) (h2 : lt c b = false) : lt a c = true := by
 rcases lt_total b c with h | h | h
 ·exact lt_trans h1 h
 ·rw [← h]; exact h1
 ·rw [h] at h2; cases h2
def hv (l : List Row) (key : List UInt8) (n : Nat) : Row × Bool :=
 match l.find? (fun r => r.key == key && decide (r.seq ≤ n)) with
 | some r => (r, true)
 | none => (zeroRow, false)
theorem hv_find {l : List Row} (h : order l = true) (key : List UInt8) (n : Nat) :
  hv l key n = match l.find? (fun r => behind key n r.key r.seq) with
   | some r => if r.key = key then (r, true) else (zeroRow, false)
   | none => (zeroRow, false) := by
 induction l with
 | nil => rfl
 | cons r l ih =>
  have hl := order_tail h
  unfold hv at ih ⊢
  rw [List.find?_cons, List.find?_cons]
  cases hb : behind key n r.key r.seq with
  | false =>
   have e : (r.key == key && decide (r.seq ≤ n)) = false := by
    rw [Bool.and_eq_false_iff]
    cases hk : (r.key == key) with
    | false => exact .inl rfl
    | true =>
     refine .inr (decide_eq_false fun hn => ?_)
     rw [(behind_iff _ _ _ _).2 (.inr ⟨beq_iff_eq.1 hk, hn⟩)] at hb
     cases hb
   rw [e]
   exact ih hl
  | true =>
   by_cases hk : r.key = key
   ·have hn : r.seq ≤ n := by
     rcases (behind_iff _ _ _ _).1 hb with h1 | h1
     ·rw [hk, lt_irr] at h1; cases h1
     ·exact h1.2
    rw [show (r.key == key && decide (r.seq ≤ n)) = true by rw [hk]; simp [hn]]
    dsimp only
    rw [if_pos hk]
   ·have hlt : lt key r.key = true := by
     rcases (behind_iff _ _ _ _).1 hb with h1 | h1
     ·exact h1
     ·exact absurd h1.1 hk
    rw [show (r.key == key && decide (r.seq ≤ n)) = false by rw [beq_false_of_ne hk]; rfl]
    dsimp only
    rw [if_neg hk]
    have hnone : l.find? (fun r => r.key == key && decide (r.seq ≤ n)) = none := by
     rw [List.find?_eq_none]
     intro x hx hx2
     rw [Bool.and_eq_true, beq_iff_eq] at hx2
     have h1 := lt_le hlt (order_key (order_all h x hx))
     rw [hx2.1, lt_irr] at h1
     cases h1
    rw [hnone]
theorem hv_none {l : List Row} {key : List UInt8} (n : Nat) (h : ∀ r ∈ l, r.key ≠ key) : hv l key n = (zeroRow, false) := by
 unfold hv
 rw [List.find?_eq_none.2]
 intro r hr hx
 rw [Bool.and_eq_true, beq_iff_eq] at hx
 exact h r hr hx.1
structure Meta (p : Part) (c : List Row) : Prop where
 first : p.first = (c.headD zeroRow).key
 last : p.last = (c.getLastD zeroRow).key
 seq : p.seq = (c.getLastD zeroRow).seq
 rows : p.rows = c.length
 pos : c ≠ []
def Shows (Q : Part → List Row → Prop) : List Part → List (List Row) → Prop
 | [], [] => True
 | p :: ps, c :: cs => (Meta p c ∧ Q p c) ∧ Shows Q ps cs
 | _, _ => False
theorem Shows.imp {Q Q' : Part → List Row → Prop} (hQ : ∀ p c, Q p c → Q' p c) : ∀ {ps : List Part} {cs : List (List Row)}, Shows Q ps cs → Shows Q' ps cs
 | [], [], _ => trivial
 | _ :: _, _ :: _, h => ⟨⟨h.1.1, hQ _ _ h.1.2⟩, Shows.imp hQ h.2⟩
 | [], _ :: _, h => h.elim
 | _ :: _, [], h => h.elim
theorem shows_partsW (R : Int) : ∀ (cs : List (List Row)) (p : Nat), (∀ c ∈ cs, Chunk R c) → Shows (fun _ _ => True) (partsW R p cs) cs := by
 intro cs
 induction cs with
 | nil => intro p _; trivial
 | cons c cs ih =>
  intro p hc
  rw [partsW]
  exact ⟨⟨⟨rfl, rfl, rfl, rfl, List.length_pos_iff.1 (hc c (by simp)).pos⟩, trivial⟩, ih _ (fun d hd => hc d (List.mem_cons_of_mem _ hd))⟩
theorem shows_read (rd : Part → Option (List Row)) : ∀ {ps : List Part} {cs : List (List Row)}, Shows (fun _ _ => True) ps cs → ps.map rd = cs.map some → Shows (fun p c => rd p = some c) ps cs
 | [], [], _, _ => trivial
 | _ :: _, _ :: _, h, h2 => by
  rw [List.map_cons, List.map_cons] at h2
  injection h2 with h3 h4
  exact ⟨⟨h.1.1, h3⟩, shows_read rd h.2 h4⟩
 | [], _ :: _, h, _ => h.elim
 | _ :: _, [], h, _ => h.elim
theorem shows_find {Q : Part → List Row → Prop} (f : List UInt8 → Nat → Bool) : ∀ {ps : List Part} {cs : List (List Row)}, Shows Q ps cs →
  (ps.find? (fun p => f p.last p.seq) = none ∧ cs.find? (fun c => f (c.getLastD zeroRow).key (c.getLastD zeroRow).seq) = none) ∨
  (∃ p c, ps.find? (fun p => f p.last p.seq) = some p ∧ cs.find? (fun c => f (c.getLastD zeroRow).key (c.getLastD zeroRow).seq) = some c ∧ Q p c ∧ p ∈ ps)
 | [], [], _ => .inl ⟨rfl, rfl⟩
 | p :: ps, c :: cs, h => by
  rw [List.find?_cons, List.find?_cons, ← h.1.1.last, ← h.1.1.seq]
  cases f p.last p.seq with
  | true => exact .inr ⟨p, c, rfl, rfl, h.1.2, by simp⟩
  | false =>
   rcases shows_find f h.2 with h1 | ⟨p', c', h1, h2, h3, h4⟩
   ·exact .inl h1
   ·exact .inr ⟨p', c', h1, h2, h3, List.mem_cons_of_mem _ h4⟩
 | [], _ :: _, h => h.elim
 | _ :: _, [], h => h.elim
theorem getLastD_mem {c : List Row} (h : c ≠ []) : c.getLastD zeroRow ∈ c := by
 rw [List.getLastD_eq_getLast?, List.getLast?_eq_some_getLast h]
 exact List.getLast_mem h
theorem pair_last {P : Row → Row → Prop} {c d : List Row} (h : (c ++ d).Pairwise P) (hc : c ≠ []) (hr : ∀ x, P x x) : ∀ x ∈ c, P x (c.getLastD zeroRow) := by
 intro x hx
 rw [List.getLastD_eq_getLast?, List.getLast?_eq_some_getLast hc]
 dsimp only [Option.getD_some]
 have h1 := (List.pairwise_append.1 h).1
 rw [← List.dropLast_concat_getLast hc] at h1 hx
 rcases List.mem_append.1 hx with hx | hx
 ·exact (List.pairwise_append.1 h1).2.2 x hx _ (by simp)
 ·rw [List.mem_singleton.1 hx]; exact hr _
theorem find_chunks (f : Row → Bool) : ∀ cs : List (List Row), cs.flatten.Pairwise (fun a b => f a = true → f b = true) → (∀ c ∈ cs, c ≠ []) →
  cs.flatten.find? f = match cs.find? (fun c => f (c.getLastD zeroRow)) with
   | none => none
   | some c => c.find? f := by
 intro cs
 induction cs with
 | nil => intro _ _; rfl
 | cons c cs ih =>
  intro hp hc
  rw [List.flatten_cons] at hp ⊢
  rw [List.find?_append, List.find?_cons]
  have hc1 := hc c (by simp)
  have hlast := pair_last hp hc1 (fun _ h => h)
  cases hf : f (c.getLastD zeroRow) with
  | true =>
   dsimp only
   have hs : (c.find? f).isSome = true := by
    rw [List.find?_isSome]
    exact ⟨_, getLastD_mem hc1, hf⟩
   obtain ⟨x, hx⟩ := Option.isSome_iff_exists.1 hs
   rw [hx]
   rfl
  | false =>
   dsimp only
   have hn : c.find? f = none := by
    rw [List.find?_eq_none]
    intro x hx hfx
    rw [hlast x hx hfx] at hf
    cases hf
   rw [hn, Option.none_or]
   exact ih (List.pairwise_append.1 hp).2.1 (fun d hd => hc d (List.mem_cons_of_mem _ hd))
theorem shows_pos {Q : Part → List Row → Prop} : ∀ {ps : List Part} {cs : List (List Row)}, Shows Q ps cs → ∀ c ∈ cs, c ≠ []
 | [], [], _, c, hc => nomatch hc
 | _ :: _, _ :: _, h, c, hc => by
  rcases List.mem_cons.1 hc with rfl | hc
  ·exact h.1.1.pos
  ·exact shows_pos h.2 c hc
 | [], _ :: _, h, _, _ => h.elim
 | _ :: _, [], h, _, _ => h.elim
theorem get_shows (has : List UInt8 → List UInt8 → Bool) (S F : List UInt8) (ps : List Part) (cs : List (List Row)) (hs : Shows (fun p c => readT S p = some c ∨ readT S p = none) ps cs) (ho : order cs.flatten = true) (key : List UInt8) (n : Nat) (hh : has F key = true) :
  get has ⟨S, F, ps⟩ key n = ((hv cs.flatten key n).1, (hv cs.flatten key n).2, 0) ∨ (get has ⟨S, F, ps⟩ key n = (zeroRow, false, 10) ∧ ∃ p ∈ ps, readT S p = none) := by
 have hf := find_chunks (fun r => behind key n r.key r.seq) cs (order_behind ho key n) (shows_pos hs)
 rw [hv_find ho, hf]
 unfold get
 rw [if_neg (by simp [hh])]
 rcases shows_find (fun k q => behind key n k q) hs with ⟨h1, h2⟩ | ⟨p, c, h1, h2, h3, h4⟩
 ·rw [h1, h2]
  exact .inl rfl
 ·rw [h1, h2]
  dsimp only
  rcases h3 with h3 | h3
  ·rw [h3]
   left
   dsimp only
   cases hq : c.find? (fun r => behind key n r.key r.seq) with
   | none => rfl
   | some r =>
    dsimp only
    by_cases hk : r.key = key
    ·rw [if_pos hk, if_pos hk]
    ·rw [if_neg hk, if_neg hk]
  ·rw [h3]
   exact .inr ⟨rfl, p, h4, h3⟩
theorem shows_all {Q : Part → Prop} : ∀ {ps : List Part} {cs : List (List Row)}, Shows (fun p _ => Q p) ps cs → ∀ p ∈ ps, Q p
 | [], [], _, p, hp => nomatch hp
 | _ :: _, _ :: _, h, p, hp => by
  rcases List.mem_cons.1 hp with rfl | hp
  ·exact h.1.2
  ·exact shows_all h.2 p hp
 | [], _ :: _, h, _, _ => h.elim
 | _ :: _, [], h, _, _ => h.elim
theorem get_whole (has : List UInt8 → List UInt8 → Bool) (S F : List UInt8) (ps : List Part) (cs : List (List Row)) (hs : Shows (fun p c => readT S p = some c) ps cs) (ho : order cs.flatten = true) (key : List UInt8) (n : Nat) (hh : has F key = true) :
  get has ⟨S, F, ps⟩ key n = ((hv cs.flatten key n).1, (hv cs.flatten key n).2, 0) := by
 rcases get_shows has S F ps cs (hs.imp fun _ _ h => .inl h) ho key n hh with h | ⟨_, p, hp, h⟩
 ·exact h
 ·have := shows_all (Q := fun p => readT S p ≠ none) (hs.imp fun _ _ h => by rw [h]; simp) p hp
  exact absurd h this
theorem get_off (has : List UInt8 → List UInt8 → Bool) (S F : List UInt8) (ps : List Part) (l : List Row) (key : List UInt8) (n : Nat) (hh : has F key = false) (hk : ∀ r ∈ l, has F r.key = true) :
  get has ⟨S, F, ps⟩ key n = ((hv l key n).1, (hv l key n).2, 0) := by
 rw [hv_none n (fun r hr e => by rw [← e, hk r hr] at hh; cases hh)]
 unfold get
 rw [if_pos hh]
theorem get_hv (has : List UInt8 → List UInt8 → Bool) (S F : List UInt8) (ps : List Part) (cs : List (List Row)) (hs : Shows (fun p c => readT S p = some c) ps cs) (ho : order cs.flatten = true) (hk : ∀ r ∈ cs.flatten, has F r.key = true) (key : List UInt8) (n : Nat) :
  get has ⟨S, F, ps⟩ key n = ((hv cs.flatten key n).1, (hv cs.flatten key n).2, 0) := by
 cases hh : has F key with
 | true => exact get_whole has S F ps cs hs ho key n hh
 | false => exact get_off has S F ps cs.flatten key n hh hk
theorem shows_rows {Q : Part → List Row → Prop} : ∀ {ps : List Part} {cs : List (List Row)}, Shows Q ps cs → (ps.map (·.rows)).sum = cs.flatten.length
 | [], [], _ => rfl
 | p :: ps, c :: cs, h => by rw [List.map_cons, List.sum_cons, List.flatten_cons, List.length_append, shows_rows h.2, h.1.1.rows]
 | [], _ :: _, h => h.elim
 | _ :: _, [], h => h.elim
theorem shows_first {Q : Part → List Row → Prop} : ∀ {ps : List Part} {cs : List (List Row)}, Shows Q ps cs → (ps.head?.map (·.first)).getD [] = (cs.flatten.headD zeroRow).key
 | [], [], _ => rfl
 | p :: ps, c :: cs, h => by
  rw [List.head?_cons, Option.map_some, Option.getD_some, h.1.1.first, List.flatten_cons]
  cases c with
  | nil => exact absurd rfl h.1.1.pos
  | cons r c => rfl
 | [], _ :: _, h => h.elim
 | _ :: _, [], h => h.elim
theorem getLastD_append {c d : List Row} (hd : d ≠ []) : (c ++ d).getLastD zeroRow = d.getLastD zeroRow := by
 rw [List.getLastD_eq_getLast?, List.getLastD_eq_getLast?, List.getLast?_append, List.getLast?_eq_some_getLast hd]
 rfl
theorem shows_last {Q : Part → List Row → Prop} : ∀ {ps : List Part} {cs : List (List Row)}, Shows Q ps cs → (ps.getLast?.map (·.last)).getD [] = (cs.flatten.getLastD zeroRow).key
 | [], [], _ => rfl
 | [p], [c], h => by
  rw [List.flatten_cons, List.flatten_nil, List.append_nil]
  exact h.1.1.last
 | p :: q :: ps, c :: d :: cs, h => by
  have h1 := shows_last h.2
  rw [List.getLast?_cons_cons, h1, List.flatten_cons (l := c), getLastD_append]
  intro e
  exact h.2.1.1.pos (List.append_eq_nil_iff.1 e).1
 | [], _ :: _, h => h.elim
 | _ :: _, [], h => h.elim
 | [_], _ :: _ :: _, h => h.2.elim
 | _ :: _ :: _, [_], h => h.2.elim
theorem shows_table (R : Int) (cs : List (List Row)) (F : List UInt8) (hc : ∀ c ∈ cs, Chunk R c) : Shows (fun p c => readT (whole R cs F) p = some c) (partsW R 0 cs) cs := by
 refine shows_read _ (shows_partsW R cs 0 hc) ?_
 exact parts_read R (whole R cs F) ((PFrame.put F).1 ++ ((PFrame.put (build (index R cs) 1).1).1 ++ foot (bodyOf R cs).length ((bodyOf R cs).length + (PFrame.put F).1.length))) cs [] (by simp [whole]) hc
end PTable
