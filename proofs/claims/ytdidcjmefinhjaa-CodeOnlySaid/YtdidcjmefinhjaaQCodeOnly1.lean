/- Texts of this claim, joined by a program of this session (wip/pack.py): PCode. -/
import GoSem.Op.String
-- PCode
namespace PCode
def putUint (n : Nat) : List UInt8 :=
  if n < 128 then [UInt8.ofNat n] else UInt8.ofNat (n % 128 + 128) :: putUint (n / 128)
  termination_by n
theorem putUint_small {n : Nat} (h : n < 128) : putUint n = [UInt8.ofNat n] := by rw [putUint, if_pos h]
theorem putUint_big {n : Nat} (h : ¬ n < 128) : putUint n = UInt8.ofNat (n % 128 + 128) :: putUint (n / 128) := by rw [putUint, if_neg h]
theorem putUint_length_le (k : Nat) : ∀ n : Nat, n < 128 ^ k → 0 < k → (putUint n).length ≤ k := by
  induction k with
  | zero => intro n h h0; omega
  | succ k ih =>
    intro n h _
    rw [putUint]
    split
    · simp
    · rename_i hn
      have hk : 0 < k := by
        rcases Nat.eq_zero_or_pos k with h0 | h0
        · subst h0; simp at h; omega
        · exact h0
      have := ih (n / 128) (by rw [Nat.div_lt_iff_lt_mul (by omega)]; rw [Nat.pow_succ] at h; exact h) hk
      simp only [List.length_cons]; omega
theorem putUint_length_ten {n : Nat} (h : n < 18446744073709551616) : (putUint n).length ≤ 10 := putUint_length_le 10 n (by omega) (by omega)
/-- number, size, error: 0 none, 6 too short, 7 ill formed -/
def uintAt : Nat → List UInt8 → Nat × Nat × Nat
  | _, [] => (0, 0, 6)
  | k, c :: l =>
    if k = 9 ∧ 1 < c.toNat then (0, 0, 7)
    else if c.toNat < 128 then (if c.toNat = 0 ∧ 0 < k then (0, 0, 7) else (c.toNat, 1, 0))
    else if (uintAt (k + 1) l).2.2 = 0 then ((uintAt (k + 1) l).1 * 128 + (c.toNat - 128), (uintAt (k + 1) l).2.1 + 1, 0) else (0, 0, (uintAt (k + 1) l).2.2)
def uint (l : List UInt8) : Nat × Nat × Nat := uintAt 0 l
theorem uintAt_err (k : Nat) (l : List UInt8) : (uintAt k l).2.2 = 0 ∨ uintAt k l = (0, 0, 6) ∨ uintAt k l = (0, 0, 7) := by
  induction l generalizing k with
  | nil => right; left; rfl
  | cons c l ih =>
    unfold uintAt
    split
    · right; right; rfl
    · split
      · split
        · right; right; rfl
        · left; rfl
      · split
        · left; rfl
        · rename_i h
          rcases ih (k + 1) with h1 | h1 | h1
          · exact absurd h1 h
          · right; left; rw [h1]
          · right; right; rw [h1]
theorem uintAt_ok (l : List UInt8) : ∀ (k n s : Nat), uintAt k l = (n, s, 0) → k < 10 →
    putUint n = l.take s ∧ 1 ≤ s ∧ s ≤ l.length ∧ n * 128 ^ k < 18446744073709551616 ∧ (0 < k → 0 < n) := by
  induction l with
  | nil => intro k n s h; simp [uintAt] at h
  | cons c l ih =>
    intro k n s h hk
    have hc := c.toNat_lt
    unfold uintAt at h
    split at h
    · simp at h
    · rename_i h9
      split at h
      · rename_i h128
        split at h
        · simp at h
        · rename_i hz
          simp only [Prod.mk.injEq, and_true] at h
          obtain ⟨rfl, rfl⟩ := h
          refine ⟨by rw [putUint_small h128]; simp, by omega, by simp, ?_, by omega⟩
          have hp : 128 ^ k ≤ 128 ^ 9 := Nat.pow_le_pow_right (by omega) (by omega)
          by_cases e : k = 9
          · subst e; omega
          · have hp : 128 ^ k ≤ 128 ^ 8 := Nat.pow_le_pow_right (by omega) (by omega)
            refine Nat.lt_of_le_of_lt (Nat.mul_le_mul (show c.toNat ≤ 127 by omega) hp) (by omega)
      · rename_i h128
        split at h
        · rename_i he
          have hk9 : k ≠ 9 := by omega
          obtain ⟨a, b, d, f, g⟩ := ih (k + 1) (uintAt (k + 1) l).1 (uintAt (k + 1) l).2.1 (by rw [← he]) (by omega)
          simp only [Prod.mk.injEq, and_true] at h
          obtain ⟨rfl, rfl⟩ := h
          generalize (uintAt (k + 1) l).1 = m at *
          generalize (uintAt (k + 1) l).2.1 = t at *
          have hm := g (by omega)
          refine ⟨?_, by omega, by simpa using d, ?_, by omega⟩
          · rw [putUint_big (by omega), show (m * 128 + (c.toNat - 128)) / 128 = m by omega, show (m * 128 + (c.toNat - 128)) % 128 + 128 = c.toNat by omega, a]
            simp
          · rw [Nat.pow_succ] at f
            have hk8 : k ≤ 8 := by omega
            have e9 : (18446744073709551616 : Nat) = 128 ^ k * (128 ^ (8 - k) * 256) := by
              rw [← Nat.mul_assoc, ← Nat.pow_add, show k + (8 - k) = 8 by omega]
            rw [e9] at f ⊢
            have hp : 0 < 128 ^ k := Nat.pow_pos (by omega)
            have f2 : m * 128 < 128 ^ (8 - k) * 256 := by
              refine Nat.lt_of_mul_lt_mul_left (a := 128 ^ k) ?_
              rw [Nat.mul_comm (128 ^ k) (m * 128), Nat.mul_assoc, Nat.mul_comm 128]
              exact f
            rw [Nat.mul_comm]
            refine Nat.mul_lt_mul_of_pos_left ?_ hp
            have hd : 128 ^ (8 - k) * 256 = 128 * (128 ^ (8 - k) * 2) := by omega
            omega
        · rename_i he
          simp only [Prod.mk.injEq] at h
          exact absurd h.2.2 he
theorem uint_ok {l : List UInt8} {n s : Nat} (h : uint l = (n, s, 0)) : putUint n = l.take s ∧ 1 ≤ s ∧ s ≤ l.length ∧ n < 18446744073709551616 := by
  obtain ⟨a, b, c, d, _⟩ := uintAt_ok l 0 n s h (by omega)
  exact ⟨a, b, c, by simpa using d⟩
/-- the k low bytes of u, the highest first -/
def be : Nat → Nat → List UInt8
  | 0, _ => []
  | k + 1, u => be k (u / 256) ++ [UInt8.ofNat (u % 256)]
def unbe (l : List UInt8) : Nat := l.foldl (fun u c => u * 256 + c.toNat) 0
theorem unbe_snoc (l : List UInt8) (c : UInt8) : unbe (l ++ [c]) = unbe l * 256 + c.toNat := by simp [unbe, List.foldl_append]
theorem be_unbe (l : List UInt8) : be l.length (unbe l) = l := by
  rw [← List.reverse_reverse l]
  generalize l.reverse = m
  induction m with
  | nil => rfl
  | cons c m ih =>
    rw [List.reverse_cons, unbe_snoc, List.length_append]
    have hc := c.toNat_lt
    simp only [List.length_cons, List.length_nil, be]
    rw [show (unbe m.reverse * 256 + c.toNat) / 256 = unbe m.reverse by omega, show (unbe m.reverse * 256 + c.toNat) % 256 = c.toNat by omega, ih]
    simp
theorem unbe_lt (l : List UInt8) : unbe l < 256 ^ l.length := by
  rw [← List.reverse_reverse l]
  generalize l.reverse = m
  induction m with
  | nil => simp [unbe]
  | cons c m ih =>
    rw [List.reverse_cons, unbe_snoc, List.length_append]
    have hc := c.toNat_lt
    simp only [List.length_cons, List.length_nil, Nat.pow_succ] at ih ⊢
    omega
abbrev lt := Go.Op.bytesLess
theorem lt_cons (a b : UInt8) (x y : List UInt8) : lt (a :: x) (b :: y) = (decide (a < b) || (a == b && lt x y)) := rfl
theorem lt_irrefl (x : List UInt8) : lt x x = false := by
  induction x with
  | nil => rfl
  | cons a x ih => rw [lt_cons, ih]; simp

/-- ordered numbers: of -2^63 to 2^63 - 1 -/
def putOrd (n : Int) : List UInt8 := be 8 (n + 9223372036854775808).toNat
def ord (l : List UInt8) : Int := (unbe (l.take 8) : Int) - 9223372036854775808
theorem put_ord (l : List UInt8) (h : 8 ≤ l.length) : putOrd (ord l) = l.take 8 := by
  unfold putOrd ord
  have hl : (l.take 8).length = 8 := by simp; omega
  have := be_unbe (l.take 8)
  rw [hl] at this
  rw [show ((unbe (l.take 8) : Int) - 9223372036854775808 + 9223372036854775808).toNat = unbe (l.take 8) by omega]
  exact this
theorem ord_range (l : List UInt8) (h : 8 ≤ l.length) : -9223372036854775808 ≤ ord l ∧ ord l ≤ 9223372036854775807 := by
  have hl : (l.take 8).length = 8 := by simp; omega
  have := unbe_lt (l.take 8)
  rw [hl] at this
  unfold ord
  omega
def putText : List UInt8 → List UInt8
  | [] => [0, 1]
  | c :: l => if c = 0 then 0 :: 255 :: putText l else c :: putText l
/-- text, size, error -/
def text : List UInt8 → List UInt8 × Nat × Nat
  | [] => ([], 0, 6)
  | c :: l =>
    if c ≠ 0 then (if (text l).2.2 = 0 then (c :: (text l).1, (text l).2.1 + 1, 0) else ([], 0, (text l).2.2))
    else match l with
      | [] => ([], 0, 6)
      | d :: l =>
        if d = 1 then ([], 2, 0)
        else if d ≠ 255 then ([], 0, 7)
        else (if (text l).2.2 = 0 then (0 :: (text l).1, (text l).2.1 + 2, 0) else ([], 0, (text l).2.2))
theorem text_ne {c : UInt8} (h : c ≠ 0) (l : List UInt8) : text (c :: l) = if (text l).2.2 = 0 then (c :: (text l).1, (text l).2.1 + 1, 0) else ([], 0, (text l).2.2) := by
  rw [text.eq_def]
  simp only [h, ne_eq, not_false_eq_true, if_true]
theorem text_err (k : Nat) : ∀ l : List UInt8, l.length ≤ k → (text l).2.2 = 0 ∨ text l = ([], 0, 6) ∨ text l = ([], 0, 7) := by
  induction k with
  | zero => intro l h; have : l = [] := by simpa using h
            subst this; right; left; rfl
  | succ k ih =>
    intro l h
    cases l with
    | nil => right; left; rfl
    | cons c l =>
      have sub : ∀ m : List UInt8, m.length ≤ k → ∀ a : List UInt8 × Nat × Nat, a.2.2 = 0 → ((if (text m).2.2 = 0 then a else ([], 0, (text m).2.2)).2.2 = 0 ∨ (if (text m).2.2 = 0 then a else ([], 0, (text m).2.2)) = ([], 0, 6) ∨ (if (text m).2.2 = 0 then a else ([], 0, (text m).2.2)) = ([], 0, 7)) := by
        intro m hm a ha
        rcases ih m hm with h1 | h1 | h1
        · left; rw [if_pos h1]; exact ha
        · right; left; rw [h1]; simp
        · right; right; rw [h1]; simp
      simp only [List.length_cons] at h
      unfold text
      split
      · exact sub l (by omega) _ rfl
      · split
        · right; left; rfl
        · rename_i d m
          split
          · left; rfl
          · split
            · right; right; rfl
            · exact sub m (by simp at h; omega) _ rfl
theorem text_ok (k : Nat) : ∀ (l t : List UInt8) (s : Nat), l.length ≤ k → text l = (t, s, 0) → putText t = l.take s ∧ 2 ≤ s ∧ s ≤ l.length := by
  induction k with
  | zero => intro l t s h e; have : l = [] := by simpa using h
            subst this; simp [text] at e
  | succ k ih =>
    intro l t s h e
    cases l with
    | nil => simp [text] at e
    | cons c l =>
      simp only [List.length_cons] at h
      unfold text at e
      split at e
      · rename_i hc
        split at e
        · rename_i h0
          obtain ⟨a, b, d⟩ := ih l (text l).1 (text l).2.1 (by omega) (by rw [← h0])
          simp only [Prod.mk.injEq, and_true] at e
          obtain ⟨rfl, rfl⟩ := e
          refine ⟨?_, by omega, by simpa using d⟩
          unfold putText
          rw [if_neg hc, a, List.take_succ_cons]
        · rename_i h0
          simp only [Prod.mk.injEq] at e
          exact absurd e.2.2 h0
      · rename_i hc
        have hc : c = 0 := by simpa using hc
        subst hc
        split at e
        · simp at e
        · rename_i d m
          split at e
          · rename_i hd
            subst hd
            simp only [Prod.mk.injEq, and_true] at e
            obtain ⟨rfl, rfl⟩ := e
            simp [putText]
          · split at e
            · simp at e
            · rename_i hd
              have hd : d = 255 := by simpa using hd
              subst hd
              split at e
              · rename_i h0
                obtain ⟨a, b, f⟩ := ih m (text m).1 (text m).2.1 (by simp at h; omega) (by rw [← h0])
                simp only [Prod.mk.injEq, and_true] at e
                obtain ⟨rfl, rfl⟩ := e
                refine ⟨?_, by omega, by simpa using f⟩
                unfold putText
                rw [if_pos rfl, a]
                simp [List.take_succ_cons]
              · rename_i h0
                simp only [Prod.mk.injEq] at e
                exact absurd e.2.2 h0
/-- an ordered text without its end -/
def encT : List UInt8 → List UInt8
  | [] => []
  | c :: l => if c = 0 then 0 :: 255 :: encT l else c :: encT l
theorem putText_enc (l : List UInt8) : putText l = encT l ++ [0, 1] := by
  induction l with
  | nil => rfl
  | cons c l ih => unfold putText encT; rw [ih]; split <;> rfl
theorem encT_append (a b : List UInt8) : encT (a ++ b) = encT a ++ encT b := by
  induction a with
  | nil => rfl
  | cons c a ih => rw [List.cons_append]; simp only [encT]; rw [ih]; split <;> rfl
theorem encT_one (c : UInt8) : encT [c] = if c = 0 then [0, 255] else [c] := rfl
theorem encT_length_take (l : List UInt8) (i : Nat) : (encT (l.take i)).length ≤ (encT l).length := by
  have := congrArg List.length (encT_append (l.take i) (l.drop i))
  rw [List.take_append_drop, List.length_append] at this
  omega
theorem encT_length_ge (l : List UInt8) : l.length ≤ (encT l).length := by
  induction l with
  | nil => simp
  | cons c l ih => unfold encT; split <;> simp <;> omega
def putField (t : List UInt8) : List UInt8 := putUint t.length ++ t
/-- text, size, error: 3: too long -/
def field (l : List UInt8) (most : Int) : List UInt8 × Nat × Nat :=
  if (uint l).2.2 ≠ 0 then ([], 0, (uint l).2.2)
  else if most < 0 ∨ most < ((uint l).1 : Int) then ([], 0, 3)
  else if l.length - (uint l).2.1 < (uint l).1 then ([], 0, 6)
  else ((l.drop (uint l).2.1).take (uint l).1, (uint l).2.1 + (uint l).1, 0)
theorem field_ok {l t : List UInt8} {most : Int} {s : Nat} (h : field l most = (t, s, 0)) : putField t = l.take s ∧ 1 ≤ s ∧ s ≤ l.length ∧ (t.length : Int) ≤ most := by
  unfold field at h
  split at h
  · rename_i e
    simp only [Prod.mk.injEq] at h
    exact absurd h.2.2 e
  · rename_i e
    have e : (uint l).2.2 = 0 := by simpa using e
    split at h
    · simp at h
    · rename_i hm
      split at h
      · simp at h
      · rename_i hl
        obtain ⟨a, b, c, d⟩ := uint_ok (l := l) (n := (uint l).1) (s := (uint l).2.1) (by rw [← e])
        simp only [Prod.mk.injEq, and_true] at h
        obtain ⟨rfl, rfl⟩ := h
        have hlen : ((l.drop (uint l).2.1).take (uint l).1).length = (uint l).1 := by simp; omega
        refine ⟨?_, by omega, by omega, by rw [hlen]; omega⟩
        unfold putField
        rw [hlen, a, List.take_add]
end PCode
