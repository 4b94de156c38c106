/- Plain theory (PCode), without any program. -/
import GoSem.Op.String
namespace PCode
/-! short numbers -/
def putUint (n : Nat) : List UInt8 :=
  if n < 128 then [UInt8.ofNat n] else UInt8.ofNat (n % 128 + 128) :: putUint (n / 128)
  termination_by n
theorem putUint_small {n : Nat} (h : n < 128) : putUint n = [UInt8.ofNat n] := by rw [putUint, if_pos h]
theorem putUint_big {n : Nat} (h : ¬ n < 128) : putUint n = UInt8.ofNat (n % 128 + 128) :: putUint (n / 128) := by rw [putUint, if_neg h]
theorem putUint_pos (n : Nat) : 0 < (putUint n).length := by rw [putUint]; split <;> simp
theorem putUint_ne (n : Nat) : putUint n ≠ [] := List.ne_nil_of_length_pos (putUint_pos n)
theorem putUint_length_le (k : Nat) : ∀ n : Nat, n < 128 ^ k → 0 < k → (putUint n).length ≤ k := by
  induction k with
  | zero => intro n h h0; omega
  | succ k ih =>
    intro n h _
    rw [putUint]
    split
    · simp
    · rename_i hn
      have hk : 0 < k := by
        rcases Nat.eq_zero_or_pos k with h0 | h0
        · subst h0; simp at h; omega
        · exact h0
      have := ih (n / 128) (by rw [Nat.div_lt_iff_lt_mul (by omega)]; rw [Nat.pow_succ] at h; exact h) hk
      simp only [List.length_cons]; omega
theorem putUint_length_ten {n : Nat} (h : n < 18446744073709551616) : (putUint n).length ≤ 10 := putUint_length_le 10 n (by omega) (by omega)
theorem putUint_length_mono : ∀ (n m : Nat), m ≤ n → (putUint m).length ≤ (putUint n).length := by
  intro n
  induction n using Nat.strongRecOn with
  | _ n ih =>
    intro m h
    by_cases hm : m < 128
    · rw [putUint_small hm]; exact putUint_pos n
    · have hn : ¬ n < 128 := by omega
      rw [putUint_big hm, putUint_big hn]
      have := ih (n / 128) (by omega) (m / 128) (by omega)
      simp only [List.length_cons]; omega
/-- number, size, error: 0 none, 6 too short, 7 ill formed -/
def uintAt : Nat → List UInt8 → Nat × Nat × Nat
  | _, [] => (0, 0, 6)
  | k, c :: l =>
    if k = 9 ∧ 1 < c.toNat then (0, 0, 7)
    else if c.toNat < 128 then (if c.toNat = 0 ∧ 0 < k then (0, 0, 7) else (c.toNat, 1, 0))
    else if (uintAt (k + 1) l).2.2 = 0 then ((uintAt (k + 1) l).1 * 128 + (c.toNat - 128), (uintAt (k + 1) l).2.1 + 1, 0) else (0, 0, (uintAt (k + 1) l).2.2)
def uint (l : List UInt8) : Nat × Nat × Nat := uintAt 0 l
theorem uintAt_err (k : Nat) (l : List UInt8) : (uintAt k l).2.2 = 0 ∨ uintAt k l = (0, 0, 6) ∨ uintAt k l = (0, 0, 7) := by
  induction l generalizing k with
  | nil => right; left; rfl
  | cons c l ih =>
    unfold uintAt
    split
    · right; right; rfl
    · split
      · split
        · right; right; rfl
        · left; rfl
      · split
        · left; rfl
        · rename_i h
          rcases ih (k + 1) with h1 | h1 | h1
          · exact absurd h1 h
          · right; left; rw [h1]
          · right; right; rw [h1]
theorem toNat_ofNat_lt {n : Nat} (h : n < 256) : (UInt8.ofNat n).toNat = n := by simp; omega
theorem uintAt_put (j : Nat) : ∀ (k n : Nat) (l : List UInt8), (k = 0 ∨ 0 < n) → n * 128 ^ k < 18446744073709551616 → k + j = 10 → uintAt k (putUint n ++ l) = (n, (putUint n).length, 0) := by
  induction j with
  | zero =>
    intro k n l h0 h hk
    obtain rfl : k = 10 := by omega
    have : 0 < n := by omega
    omega
  | succ j ih =>
    intro k n l h0 h hk
    have h9 : k = 9 → n < 2 := by rintro rfl; omega
    by_cases hn : n < 128
    · rw [putUint_small hn]
      simp only [List.cons_append, List.nil_append, uintAt, List.length_cons, List.length_nil]
      rw [toNat_ofNat_lt (by omega), if_neg (by omega), if_pos hn, if_neg (by omega)]
    · rw [putUint_big hn]
      have hk9 : k ≠ 9 := by intro e; have := h9 e; omega
      have e := ih (k + 1) (n / 128) l (by omega) (by
        refine Nat.lt_of_le_of_lt ?_ h
        rw [Nat.pow_succ, Nat.mul_comm (128 ^ k) 128, ← Nat.mul_assoc]
        exact Nat.mul_le_mul_right _ (by omega)) (by omega)
      simp only [List.cons_append, uintAt, List.length_cons]
      rw [toNat_ofNat_lt (by omega), if_neg (by omega), if_neg (by omega), e, if_pos rfl]
      simp only [Prod.mk.injEq, and_true]
      omega
theorem uint_put {n : Nat} (h : n < 18446744073709551616) (l : List UInt8) : uint (putUint n ++ l) = (n, (putUint n).length, 0) :=
  uintAt_put 10 0 n l (.inl rfl) (by simpa using h) (by omega)
theorem uintAt_ok (l : List UInt8) : ∀ (k n s : Nat), uintAt k l = (n, s, 0) → k < 10 →
    putUint n = l.take s ∧ 1 ≤ s ∧ s ≤ l.length ∧ n * 128 ^ k < 18446744073709551616 ∧ (0 < k → 0 < n) := by
  induction l with
  | nil => intro k n s h; simp [uintAt] at h
  | cons c l ih =>
    intro k n s h hk
    have hc := c.toNat_lt
    unfold uintAt at h
    split at h
    · simp at h
    · rename_i h9
      split at h
      · rename_i h128
        split at h
        · simp at h
        · rename_i hz
          simp only [Prod.mk.injEq, and_true] at h
          obtain ⟨rfl, rfl⟩ := h
          refine ⟨by rw [putUint_small h128]; simp, by omega, by simp, ?_, by omega⟩
          have hp : 128 ^ k ≤ 128 ^ 9 := Nat.pow_le_pow_right (by omega) (by omega)
          by_cases e : k = 9
          · subst e; omega
          · have hp : 128 ^ k ≤ 128 ^ 8 := Nat.pow_le_pow_right (by omega) (by omega)
            refine Nat.lt_of_le_of_lt (Nat.mul_le_mul (show c.toNat ≤ 127 by omega) hp) (by omega)
      · rename_i h128
        split at h
        · rename_i he
          have hk9 : k ≠ 9 := by omega
          obtain ⟨a, b, d, f, g⟩ := ih (k + 1) (uintAt (k + 1) l).1 (uintAt (k + 1) l).2.1 (by rw [← he]) (by omega)
          simp only [Prod.mk.injEq, and_true] at h
          obtain ⟨rfl, rfl⟩ := h
          generalize (uintAt (k + 1) l).1 = m at *
          generalize (uintAt (k + 1) l).2.1 = t at *
          have hm := g (by omega)
          refine ⟨?_, by omega, by simpa using d, ?_, by omega⟩
          · rw [putUint_big (by omega), show (m * 128 + (c.toNat - 128)) / 128 = m by omega, show (m * 128 + (c.toNat - 128)) % 128 + 128 = c.toNat by omega, a]
            simp
          · rw [Nat.pow_succ] at f
            have hk8 : k ≤ 8 := by omega
            have e9 : (18446744073709551616 : Nat) = 128 ^ k * (128 ^ (8 - k) * 256) := by
              rw [← Nat.mul_assoc, ← Nat.pow_add, show k + (8 - k) = 8 by omega]
            rw [e9] at f ⊢
            have hp : 0 < 128 ^ k := Nat.pow_pos (by omega)
            have f2 : m * 128 < 128 ^ (8 - k) * 256 := by
              refine Nat.lt_of_mul_lt_mul_left (a := 128 ^ k) ?_
              rw [Nat.mul_comm (128 ^ k) (m * 128), Nat.mul_assoc, Nat.mul_comm 128]
              exact f
            rw [Nat.mul_comm]
            refine Nat.mul_lt_mul_of_pos_left ?_ hp
            have hd : 128 ^ (8 - k) * 256 = 128 * (128 ^ (8 - k) * 2) := by omega
            omega
        · rename_i he
          simp only [Prod.mk.injEq] at h
          exact absurd h.2.2 he
theorem uint_ok {l : List UInt8} {n s : Nat} (h : uint l = (n, s, 0)) : putUint n = l.take s ∧ 1 ≤ s ∧ s ≤ l.length ∧ n < 18446744073709551616 := by
  obtain ⟨a, b, c, d, _⟩ := uintAt_ok l 0 n s h (by omega)
  exact ⟨a, b, c, by simpa using d⟩
theorem uintAt_cut (j : Nat) : ∀ (k n i : Nat), (k = 0 ∨ 0 < n) → n * 128 ^ k < 18446744073709551616 → k + j = 10 → i < (putUint n).length → uintAt k ((putUint n).take i) = (0, 0, 6) := by
  induction j with
  | zero =>
    intro k n i h0 h hk
    obtain rfl : k = 10 := by omega
    have : 0 < n := by omega
    omega
  | succ j ih =>
    intro k n i h0 h hk hi
    have h9 : k = 9 → n < 2 := by rintro rfl; omega
    cases i with
    | zero => simp [uintAt]
    | succ i =>
      by_cases hn : n < 128
      · rw [putUint_small hn] at hi; simp at hi
      · rw [putUint_big hn] at hi ⊢
        have hk9 : k ≠ 9 := by intro e; have := h9 e; omega
        have e := ih (k + 1) (n / 128) i (by omega) (by
          refine Nat.lt_of_le_of_lt ?_ h
          rw [Nat.pow_succ, Nat.mul_comm (128 ^ k) 128, ← Nat.mul_assoc]
          exact Nat.mul_le_mul_right _ (by omega)) (by omega) (by simpa using hi)
        simp only [List.take_succ_cons, uintAt]
        rw [toNat_ofNat_lt (by omega), if_neg (by omega), if_neg (by omega), e, if_neg (by simp)]
theorem uint_cut {n : Nat} (h : n < 18446744073709551616) {i : Nat} (hi : i < (putUint n).length) : uint ((putUint n).take i) = (0, 0, 6) :=
  uintAt_cut 10 0 n i (.inl rfl) (by simpa using h) (by omega) hi
/-! ordered numbers -/
/-- the k low bytes of u, the highest first -/
def be : Nat → Nat → List UInt8
  | 0, _ => []
  | k + 1, u => be k (u / 256) ++ [UInt8.ofNat (u % 256)]
theorem be_length (k u : Nat) : (be k u).length = k := by
  induction k generalizing u with
  | zero => rfl
  | succ k ih => simp [be, ih]
def unbe (l : List UInt8) : Nat := l.foldl (fun u c => u * 256 + c.toNat) 0
theorem unbe_snoc (l : List UInt8) (c : UInt8) : unbe (l ++ [c]) = unbe l * 256 + c.toNat := by simp [unbe, List.foldl_append]
theorem unbe_be (k u : Nat) (h : u < 256 ^ k) : unbe (be k u) = u := by
  induction k generalizing u with
  | zero => simp [be, unbe]; simp at h; omega
  | succ k ih =>
    simp only [be]
    rw [unbe_snoc, ih (u / 256) (by rw [Nat.div_lt_iff_lt_mul (by omega)]; rw [Nat.pow_succ] at h; exact h), toNat_ofNat_lt (by omega)]
    omega
theorem be_unbe (l : List UInt8) : be l.length (unbe l) = l := by
  rw [← List.reverse_reverse l]
  generalize l.reverse = m
  induction m with
  | nil => rfl
  | cons c m ih =>
    rw [List.reverse_cons, unbe_snoc, List.length_append]
    have hc := c.toNat_lt
    simp only [List.length_cons, List.length_nil, be]
    rw [show (unbe m.reverse * 256 + c.toNat) / 256 = unbe m.reverse by omega, show (unbe m.reverse * 256 + c.toNat) % 256 = c.toNat by omega, ih]
    simp
theorem unbe_lt (l : List UInt8) : unbe l < 256 ^ l.length := by
  rw [← List.reverse_reverse l]
  generalize l.reverse = m
  induction m with
  | nil => simp [unbe]
  | cons c m ih =>
    rw [List.reverse_cons, unbe_snoc, List.length_append]
    have hc := c.toNat_lt
    simp only [List.length_cons, List.length_nil, Nat.pow_succ] at ih ⊢
    omega
/-! the order of bytes -/
abbrev lt := Go.Op.bytesLess
theorem lt_cons (a b : UInt8) (x y : List UInt8) : lt (a :: x) (b :: y) = (decide (a < b) || (a == b && lt x y)) := rfl
theorem lt_nil_right (x : List UInt8) : lt x [] = false := by cases x <;> rfl
theorem lt_nil_left (x : List UInt8) : lt [] x = !x.isEmpty := by cases x <;> rfl
theorem lt_irrefl (x : List UInt8) : lt x x = false := by
  induction x with
  | nil => rfl
  | cons a x ih => rw [lt_cons, ih]; simp

theorem lt_append (x y a b : List UInt8) (h : x.length = y.length) : lt (x ++ a) (y ++ b) = (lt x y || (x == y && lt a b)) := by
  induction x generalizing y with
  | nil =>
    cases y with
    | nil => simp [lt_nil_right]
    | cons => simp at h
  | cons c x ih =>
    cases y with
    | nil => simp at h
    | cons d y =>
      simp only [List.cons_append, lt_cons]
      rw [ih y (by simpa using h)]
      by_cases e : c = d
      · subst e; simp [UInt8.lt_irrefl]
      · have e1 : (c == d) = false := by simpa using e
        have e2 : (c :: x == d :: y) = false := by simp [e]
        rw [e1, e2]; simp
theorem lt_be (k : Nat) : ∀ (a b : Nat), a < 256 ^ k → b < 256 ^ k → lt (be k a) (be k b) = decide (a < b) := by
  induction k with
  | zero => intro a b ha hb; simp at ha hb; subst ha hb; simp [be, lt_nil_right]
  | succ k ih =>
    intro a b ha hb
    rw [Nat.pow_succ] at ha hb
    have ha' : a / 256 < 256 ^ k := by rw [Nat.div_lt_iff_lt_mul (by omega)]; exact ha
    have hb' : b / 256 < 256 ^ k := by rw [Nat.div_lt_iff_lt_mul (by omega)]; exact hb
    simp only [be]
    rw [lt_append _ _ _ _ (by simp [be_length]), ih _ _ ha' hb', lt_cons, lt_nil_right]
    have hq : (be k (a / 256) == be k (b / 256)) = decide (a / 256 = b / 256) := by
      by_cases e : a / 256 = b / 256
      · simp [e]
      · have : be k (a / 256) ≠ be k (b / 256) := fun h => e (by rw [← unbe_be k _ ha', ← unbe_be k _ hb', h])
        simp [e, this]
    rw [hq]
    have hlt : (UInt8.ofNat (a % 256) < UInt8.ofNat (b % 256)) ↔ a % 256 < b % 256 := by
      rw [UInt8.lt_iff_toNat_lt, toNat_ofNat_lt (by omega), toNat_ofNat_lt (by omega)]
    rw [Bool.eq_iff_iff]
    simp only [Bool.or_eq_true, Bool.and_eq_true, decide_eq_true_eq, Bool.and_false, Bool.or_false, hlt]
    omega
/-- ordered numbers: of -2^63 to 2^63 - 1 -/
def putOrd (n : Int) : List UInt8 := be 8 (n + 9223372036854775808).toNat
def ord (l : List UInt8) : Int := (unbe (l.take 8) : Int) - 9223372036854775808
theorem putOrd_length (n : Int) : (putOrd n).length = 8 := be_length ..
theorem ord_put (n : Int) (h1 : -9223372036854775808 ≤ n) (h2 : n ≤ 9223372036854775807) (l : List UInt8) : ord (putOrd n ++ l) = n := by
  unfold ord
  rw [List.take_append_of_le_length (by rw [putOrd_length]; omega), List.take_of_length_le (by rw [putOrd_length]; omega)]
  unfold putOrd
  rw [unbe_be 8 _ (by omega)]
  omega
theorem put_ord (l : List UInt8) (h : 8 ≤ l.length) : putOrd (ord l) = l.take 8 := by
  unfold putOrd ord
  have hl : (l.take 8).length = 8 := by simp; omega
  have := be_unbe (l.take 8)
  rw [hl] at this
  rw [show ((unbe (l.take 8) : Int) - 9223372036854775808 + 9223372036854775808).toNat = unbe (l.take 8) by omega]
  exact this
theorem ord_range (l : List UInt8) (h : 8 ≤ l.length) : -9223372036854775808 ≤ ord l ∧ ord l ≤ 9223372036854775807 := by
  have hl : (l.take 8).length = 8 := by simp; omega
  have := unbe_lt (l.take 8)
  rw [hl] at this
  unfold ord
  omega
theorem putOrd_inj {m n : Int} (h1 : -9223372036854775808 ≤ m) (h2 : m ≤ 9223372036854775807) (h3 : -9223372036854775808 ≤ n) (h4 : n ≤ 9223372036854775807) (h : putOrd m = putOrd n) : m = n := by
  rw [← ord_put m h1 h2 [], h, ord_put n h3 h4]
theorem lt_ord {m n : Int} (h1 : -9223372036854775808 ≤ m) (h2 : m ≤ 9223372036854775807) (h3 : -9223372036854775808 ≤ n) (h4 : n ≤ 9223372036854775807) : lt (putOrd m) (putOrd n) = decide (m < n) := by
  unfold putOrd
  rw [lt_be 8 _ _ (by omega) (by omega)]
  congr 1
  exact propext ⟨fun h => by omega, fun h => by omega⟩
/-! ordered texts -/
def putText : List UInt8 → List UInt8
  | [] => [0, 1]
  | c :: l => if c = 0 then 0 :: 255 :: putText l else c :: putText l
/-- text, size, error -/
def text : List UInt8 → List UInt8 × Nat × Nat
  | [] => ([], 0, 6)
  | c :: l =>
    if c ≠ 0 then (if (text l).2.2 = 0 then (c :: (text l).1, (text l).2.1 + 1, 0) else ([], 0, (text l).2.2))
    else match l with
      | [] => ([], 0, 6)
      | d :: l =>
        if d = 1 then ([], 2, 0)
        else if d ≠ 255 then ([], 0, 7)
        else (if (text l).2.2 = 0 then (0 :: (text l).1, (text l).2.1 + 2, 0) else ([], 0, (text l).2.2))
theorem putText_length (t : List UInt8) : 2 ≤ (putText t).length := by
  induction t with
  | nil => simp [putText]
  | cons c t ih => unfold putText; split <;> simp <;> omega
theorem putText_length_le (t : List UInt8) : (putText t).length ≤ 2 * t.length + 2 := by
  induction t with
  | nil => simp [putText]
  | cons c t ih => unfold putText; split <;> simp <;> omega
theorem text_ne {c : UInt8} (h : c ≠ 0) (l : List UInt8) : text (c :: l) = if (text l).2.2 = 0 then (c :: (text l).1, (text l).2.1 + 1, 0) else ([], 0, (text l).2.2) := by
  rw [text.eq_def]
  simp only [h, ne_eq, not_false_eq_true, if_true]
theorem text_put (t l : List UInt8) : text (putText t ++ l) = (t, (putText t).length, 0) := by
  induction t with
  | nil => simp [putText, text]
  | cons c t ih =>
    unfold putText
    split
    · rename_i h
      subst h
      simp only [List.cons_append, text, ih]
      simp
    · rename_i h
      rw [List.cons_append, text_ne h, ih]
      simp
theorem text_err (k : Nat) : ∀ l : List UInt8, l.length ≤ k → (text l).2.2 = 0 ∨ text l = ([], 0, 6) ∨ text l = ([], 0, 7) := by
  induction k with
  | zero => intro l h; have : l = [] := by simpa using h
            subst this; right; left; rfl
  | succ k ih =>
    intro l h
    cases l with
    | nil => right; left; rfl
    | cons c l =>
      have sub : ∀ m : List UInt8, m.length ≤ k → ∀ a : List UInt8 × Nat × Nat, a.2.2 = 0 → ((if (text m).2.2 = 0 then a else ([], 0, (text m).2.2)).2.2 = 0 ∨ (if (text m).2.2 = 0 then a else ([], 0, (text m).2.2)) = ([], 0, 6) ∨ (if (text m).2.2 = 0 then a else ([], 0, (text m).2.2)) = ([], 0, 7)) := by
        intro m hm a ha
        rcases ih m hm with h1 | h1 | h1
        · left; rw [if_pos h1]; exact ha
        · right; left; rw [h1]; simp
        · right; right; rw [h1]; simp
      simp only [List.length_cons] at h
      unfold text
      split
      · exact sub l (by omega) _ rfl
      · split
        · right; left; rfl
        · rename_i d m
          split
          · left; rfl
          · split
            · right; right; rfl
            · exact sub m (by simp at h; omega) _ rfl
theorem text_ok (k : Nat) : ∀ (l t : List UInt8) (s : Nat), l.length ≤ k → text l = (t, s, 0) → putText t = l.take s ∧ 2 ≤ s ∧ s ≤ l.length := by
  induction k with
  | zero => intro l t s h e; have : l = [] := by simpa using h
            subst this; simp [text] at e
  | succ k ih =>
    intro l t s h e
    cases l with
    | nil => simp [text] at e
    | cons c l =>
      simp only [List.length_cons] at h
      unfold text at e
      split at e
      · rename_i hc
        split at e
        · rename_i h0
          obtain ⟨a, b, d⟩ := ih l (text l).1 (text l).2.1 (by omega) (by rw [← h0])
          simp only [Prod.mk.injEq, and_true] at e
          obtain ⟨rfl, rfl⟩ := e
          refine ⟨?_, by omega, by simpa using d⟩
          unfold putText
          rw [if_neg hc, a, List.take_succ_cons]
        · rename_i h0
          simp only [Prod.mk.injEq] at e
          exact absurd e.2.2 h0
      · rename_i hc
        have hc : c = 0 := by simpa using hc
        subst hc
        split at e
        · simp at e
        · rename_i d m
          split at e
          · rename_i hd
            subst hd
            simp only [Prod.mk.injEq, and_true] at e
            obtain ⟨rfl, rfl⟩ := e
            simp [putText]
          · split at e
            · simp at e
            · rename_i hd
              have hd : d = 255 := by simpa using hd
              subst hd
              split at e
              · rename_i h0
                obtain ⟨a, b, f⟩ := ih m (text m).1 (text m).2.1 (by simp at h; omega) (by rw [← h0])
                simp only [Prod.mk.injEq, and_true] at e
                obtain ⟨rfl, rfl⟩ := e
                refine ⟨?_, by omega, by simpa using f⟩
                unfold putText
                rw [if_pos rfl, a]
                simp [List.take_succ_cons]
              · rename_i h0
                simp only [Prod.mk.injEq] at e
                exact absurd e.2.2 h0
theorem putText_inj {t u : List UInt8} (h : putText t = putText u) : t = u := by
  have a := text_put t []
  have b := text_put u []
  rw [h, b] at a
  simp only [Prod.mk.injEq] at a
  exact a.1.symm
theorem text_cut (t : List UInt8) : ∀ i, i < (putText t).length → text ((putText t).take i) = ([], 0, 6) := by
  induction t with
  | nil =>
    intro i hi
    simp [putText] at hi
    match i, hi with
    | 0, _ => rfl
    | 1, _ => rfl
  | cons c t ih =>
    intro i hi
    unfold putText at hi ⊢
    split at hi
    · rename_i h
      subst h
      rw [if_pos rfl]
      match i, hi with
      | 0, _ => rfl
      | 1, _ => rfl
      | i + 2, hi =>
        simp only [List.take_succ_cons, text]
        rw [ih i (by simpa using hi)]
        simp
    · rename_i h
      rw [if_neg h]
      match i, hi with
      | 0, _ => rfl
      | i + 1, hi =>
        rw [List.take_succ_cons, text_ne h, ih i (by simpa using hi)]
        simp
/-- the order of ordered texts, whatever stands behind -/
theorem lt_text (t u a b : List UInt8) (h : t ≠ u) : lt (putText t ++ a) (putText u ++ b) = lt t u := by
  induction t generalizing u with
  | nil =>
    cases u with
    | nil => exact absurd rfl h
    | cons d u =>
      unfold putText
      split
      · rename_i e
        subst e
        rfl
      · rename_i e
        have : (0 : UInt8) < d := by
          rw [UInt8.lt_iff_toNat_lt]
          have : d.toNat ≠ 0 := fun z => e (UInt8.toNat_inj.mp z)
          simp; omega
        simp [lt_cons, this, lt_nil_left]
  | cons c t ih =>
    cases u with
    | nil =>
      unfold putText
      rw [lt_nil_right]
      split
      · rename_i e
        subst e
        rfl
      · rename_i e
        have h1 : ¬ c < (0 : UInt8) := by rw [UInt8.lt_iff_toNat_lt]; simp
        have h2 : (c == (0 : UInt8)) = false := by simpa using e
        simp [lt_cons, h2]
    | cons d u =>
      by_cases e : c = d
      · subst e
        have htu : t ≠ u := fun z => h (by rw [z])
        unfold putText
        split
        · simp only [List.cons_append, lt_cons]
          rw [ih u htu]
          rename_i z; subst z
          simp
        · simp only [List.cons_append, lt_cons]
          rw [ih u htu]
      · have e1 : (c == d) = false := by simpa using e
        have e0 : lt (c :: t) (d :: u) = decide (c < d) := by rw [lt_cons, e1]; simp
        rw [e0]
        obtain ⟨c', hc⟩ : ∃ x, putText (c :: t) ++ a = c :: x := by
          unfold putText; split
          · rename_i z; subst z; exact ⟨_, rfl⟩
          · exact ⟨_, rfl⟩
        obtain ⟨d', hd⟩ : ∃ x, putText (d :: u) ++ b = d :: x := by
          unfold putText; split
          · rename_i z; subst z; exact ⟨_, rfl⟩
          · exact ⟨_, rfl⟩
        rw [hc, hd, lt_cons, e1]; simp
/-- no ordered text begins another one -/
theorem text_begins (t u : List UInt8) (x : List UInt8) (h : putText u = putText t ++ x) : t = u := by
  have a := text_put u []
  rw [List.append_nil, h, text_put t x] at a
  simp only [Prod.mk.injEq] at a
  exact a.1
/-- an ordered text without its end -/
def encT : List UInt8 → List UInt8
  | [] => []
  | c :: l => if c = 0 then 0 :: 255 :: encT l else c :: encT l
theorem putText_enc (l : List UInt8) : putText l = encT l ++ [0, 1] := by
  induction l with
  | nil => rfl
  | cons c l ih => unfold putText encT; rw [ih]; split <;> rfl
theorem encT_append (a b : List UInt8) : encT (a ++ b) = encT a ++ encT b := by
  induction a with
  | nil => rfl
  | cons c a ih => rw [List.cons_append]; simp only [encT]; rw [ih]; split <;> rfl
theorem encT_one (c : UInt8) : encT [c] = if c = 0 then [0, 255] else [c] := rfl
theorem encT_length_take (l : List UInt8) (i : Nat) : (encT (l.take i)).length ≤ (encT l).length := by
  have := congrArg List.length (encT_append (l.take i) (l.drop i))
  rw [List.take_append_drop, List.length_append] at this
  omega
theorem encT_length_ge (l : List UInt8) : l.length ≤ (encT l).length := by
  induction l with
  | nil => simp
  | cons c l ih => unfold encT; split <;> simp <;> omega
/-! fields -/
def putField (t : List UInt8) : List UInt8 := putUint t.length ++ t
/-- text, size, error: 3: too long -/
def field (l : List UInt8) (most : Int) : List UInt8 × Nat × Nat :=
  if (uint l).2.2 ≠ 0 then ([], 0, (uint l).2.2)
  else if most < 0 ∨ most < ((uint l).1 : Int) then ([], 0, 3)
  else if l.length - (uint l).2.1 < (uint l).1 then ([], 0, 6)
  else ((l.drop (uint l).2.1).take (uint l).1, (uint l).2.1 + (uint l).1, 0)
theorem field_put (t l : List UInt8) (most : Int) (ht : t.length < 18446744073709551616) (hm : (t.length : Int) ≤ most) : field (putField t ++ l) most = (t, (putField t).length, 0) := by
  unfold field putField
  rw [List.append_assoc, uint_put ht]
  simp only [List.length_append]
  rw [if_neg (by simp), if_neg (by omega), if_neg (by omega)]
  simp
theorem field_ok {l t : List UInt8} {most : Int} {s : Nat} (h : field l most = (t, s, 0)) : putField t = l.take s ∧ 1 ≤ s ∧ s ≤ l.length ∧ (t.length : Int) ≤ most := by
  unfold field at h
  split at h
  · rename_i e
    simp only [Prod.mk.injEq] at h
    exact absurd h.2.2 e
  · rename_i e
    have e : (uint l).2.2 = 0 := by simpa using e
    split at h
    · simp at h
    · rename_i hm
      split at h
      · simp at h
      · rename_i hl
        obtain ⟨a, b, c, d⟩ := uint_ok (l := l) (n := (uint l).1) (s := (uint l).2.1) (by rw [← e])
        simp only [Prod.mk.injEq, and_true] at h
        obtain ⟨rfl, rfl⟩ := h
        have hlen : ((l.drop (uint l).2.1).take (uint l).1).length = (uint l).1 := by simp; omega
        refine ⟨?_, by omega, by omega, by rw [hlen]; omega⟩
        unfold putField
        rw [hlen, a, List.take_add]
theorem field_cut {t : List UInt8} {most : Int} (ht : t.length < 18446744073709551616) (hm : (t.length : Int) ≤ most) {i : Nat} (hi : i < (putField t).length) : field ((putField t).take i) most = ([], 0, 6) := by
  unfold putField at hi ⊢
  rw [List.length_append] at hi
  by_cases h : i < (putUint t.length).length
  · rw [List.take_append_of_le_length (by omega)]
    unfold field
    rw [uint_cut ht h]
    simp
  · rw [List.take_append, List.take_of_length_le (by omega)]
    unfold field
    rw [uint_put ht]
    simp only [List.length_append, List.length_take]
    rw [if_neg (by simp), if_neg (by omega), if_pos (by omega)]
end PCode
