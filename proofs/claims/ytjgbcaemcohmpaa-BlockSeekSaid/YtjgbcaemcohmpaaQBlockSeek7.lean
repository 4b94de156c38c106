/- Texts of this claim, joined by a program of this session (wip/pack.py): PCode, PBlock, PBlock2, PBlock3. -/
import GoSem.Op.String
-- PCode
namespace PCode
def putUint (n : Nat) : List UInt8 :=
  if n < 128 then [UInt8.ofNat n] else UInt8.ofNat (n % 128 + 128) :: putUint (n / 128)
  termination_by n
theorem putUint_small {n : Nat} (h : n < 128) : putUint n = [UInt8.ofNat n] := by rw [putUint, if_pos h]
theorem putUint_big {n : Nat} (h : ¬ n < 128) : putUint n = UInt8.ofNat (n % 128 + 128) :: putUint (n / 128) := by rw [putUint, if_neg h]
theorem putUint_pos (n : Nat) : 0 < (putUint n).length := by rw [putUint]; split <;> simp
theorem putUint_length_le (k : Nat) : ∀ n : Nat, n < 128 ^ k → 0 < k → (putUint n).length ≤ k := by
  induction k with
  | zero => intro n h h0; omega
  | succ k ih =>
    intro n h _
    rw [putUint]
    split
    · simp
    · rename_i hn
      have hk : 0 < k := by
        rcases Nat.eq_zero_or_pos k with h0 | h0
        · subst h0; simp at h; omega
        · exact h0
      have := ih (n / 128) (by rw [Nat.div_lt_iff_lt_mul (by omega)]; rw [Nat.pow_succ] at h; exact h) hk
      simp only [List.length_cons]; omega
theorem putUint_length_ten {n : Nat} (h : n < 18446744073709551616) : (putUint n).length ≤ 10 := putUint_length_le 10 n (by omega) (by omega)
/-- number, size, error: 0 none, 6 too short, 7 ill formed -/
def uintAt : Nat → List UInt8 → Nat × Nat × Nat
  | _, [] => (0, 0, 6)
  | k, c :: l =>
    if k = 9 ∧ 1 < c.toNat then (0, 0, 7)
    else if c.toNat < 128 then (if c.toNat = 0 ∧ 0 < k then (0, 0, 7) else (c.toNat, 1, 0))
    else if (uintAt (k + 1) l).2.2 = 0 then ((uintAt (k + 1) l).1 * 128 + (c.toNat - 128), (uintAt (k + 1) l).2.1 + 1, 0) else (0, 0, (uintAt (k + 1) l).2.2)
def uint (l : List UInt8) : Nat × Nat × Nat := uintAt 0 l
theorem uintAt_err (k : Nat) (l : List UInt8) : (uintAt k l).2.2 = 0 ∨ uintAt k l = (0, 0, 6) ∨ uintAt k l = (0, 0, 7) := by
  induction l generalizing k with
  | nil => right; left; rfl
  | cons c l ih =>
    unfold uintAt
    split
    · right; right; rfl
    · split
      · split
        · right; right; rfl
        · left; rfl
      · split
        · left; rfl
        · rename_i h
          rcases ih (k + 1) with h1 | h1 | h1
          · exact absurd h1 h
          · right; left; rw [h1]
          · right; right; rw [h1]
theorem toNat_ofNat_lt {n : Nat} (h : n < 256) : (UInt8.ofNat n).toNat = n := by simp; omega
theorem uintAt_put (j : Nat) : ∀ (k n : Nat) (l : List UInt8), (k = 0 ∨ 0 < n) → n * 128 ^ k < 18446744073709551616 → k + j = 10 → uintAt k (putUint n ++ l) = (n, (putUint n).length, 0) := by
  induction j with
  | zero =>
    intro k n l h0 h hk
    obtain rfl : k = 10 := by omega
    have : 0 < n := by omega
    omega
  | succ j ih =>
    intro k n l h0 h hk
    have h9 : k = 9 → n < 2 := by rintro rfl; omega
    by_cases hn : n < 128
    · rw [putUint_small hn]
      simp only [List.cons_append, List.nil_append, uintAt, List.length_cons, List.length_nil]
      rw [toNat_ofNat_lt (by omega), if_neg (by omega), if_pos hn, if_neg (by omega)]
    · rw [putUint_big hn]
      have hk9 : k ≠ 9 := by intro e; have := h9 e; omega
      have e := ih (k + 1) (n / 128) l (by omega) (by
        refine Nat.lt_of_le_of_lt ?_ h
        rw [Nat.pow_succ, Nat.mul_comm (128 ^ k) 128, ← Nat.mul_assoc]
        exact Nat.mul_le_mul_right _ (by omega)) (by omega)
      simp only [List.cons_append, uintAt, List.length_cons]
      rw [toNat_ofNat_lt (by omega), if_neg (by omega), if_neg (by omega), e, if_pos rfl]
      simp only [Prod.mk.injEq, and_true]
      omega
theorem uint_put {n : Nat} (h : n < 18446744073709551616) (l : List UInt8) : uint (putUint n ++ l) = (n, (putUint n).length, 0) :=
  uintAt_put 10 0 n l (.inl rfl) (by simpa using h) (by omega)
theorem uintAt_ok (l : List UInt8) : ∀ (k n s : Nat), uintAt k l = (n, s, 0) → k < 10 →
    putUint n = l.take s ∧ 1 ≤ s ∧ s ≤ l.length ∧ n * 128 ^ k < 18446744073709551616 ∧ (0 < k → 0 < n) := by
  induction l with
  | nil => intro k n s h; simp [uintAt] at h
  | cons c l ih =>
    intro k n s h hk
    have hc := c.toNat_lt
    unfold uintAt at h
    split at h
    · simp at h
    · rename_i h9
      split at h
      · rename_i h128
        split at h
        · simp at h
        · rename_i hz
          simp only [Prod.mk.injEq, and_true] at h
          obtain ⟨rfl, rfl⟩ := h
          refine ⟨by rw [putUint_small h128]; simp, by omega, by simp, ?_, by omega⟩
          have hp : 128 ^ k ≤ 128 ^ 9 := Nat.pow_le_pow_right (by omega) (by omega)
          by_cases e : k = 9
          · subst e; omega
          · have hp : 128 ^ k ≤ 128 ^ 8 := Nat.pow_le_pow_right (by omega) (by omega)
            refine Nat.lt_of_le_of_lt (Nat.mul_le_mul (show c.toNat ≤ 127 by omega) hp) (by omega)
      · rename_i h128
        split at h
        · rename_i he
          have hk9 : k ≠ 9 := by omega
          obtain ⟨a, b, d, f, g⟩ := ih (k + 1) (uintAt (k + 1) l).1 (uintAt (k + 1) l).2.1 (by rw [← he]) (by omega)
          simp only [Prod.mk.injEq, and_true] at h
          obtain ⟨rfl, rfl⟩ := h
          generalize (uintAt (k + 1) l).1 = m at *
          generalize (uintAt (k + 1) l).2.1 = t at *
          have hm := g (by omega)
          refine ⟨?_, by omega, by simpa using d, ?_, by omega⟩
          · rw [putUint_big (by omega), show (m * 128 + (c.toNat - 128)) / 128 = m by omega, show (m * 128 + (c.toNat - 128)) % 128 + 128 = c.toNat by omega, a]
            simp
          · rw [Nat.pow_succ] at f
            have hk8 : k ≤ 8 := by omega
            have e9 : (18446744073709551616 : Nat) = 128 ^ k * (128 ^ (8 - k) * 256) := by
              rw [← Nat.mul_assoc, ← Nat.pow_add, show k + (8 - k) = 8 by omega]
            rw [e9] at f ⊢
            have hp : 0 < 128 ^ k := Nat.pow_pos (by omega)
            have f2 : m * 128 < 128 ^ (8 - k) * 256 := by
              refine Nat.lt_of_mul_lt_mul_left (a := 128 ^ k) ?_
              rw [Nat.mul_comm (128 ^ k) (m * 128), Nat.mul_assoc, Nat.mul_comm 128]
              exact f
            rw [Nat.mul_comm]
            refine Nat.mul_lt_mul_of_pos_left ?_ hp
            have hd : 128 ^ (8 - k) * 256 = 128 * (128 ^ (8 - k) * 2) := by omega
            omega
        · rename_i he
          simp only [Prod.mk.injEq] at h
          exact absurd h.2.2 he
theorem uint_ok {l : List UInt8} {n s : Nat} (h : uint l = (n, s, 0)) : putUint n = l.take s ∧ 1 ≤ s ∧ s ≤ l.length ∧ n < 18446744073709551616 := by
  obtain ⟨a, b, c, d, _⟩ := uintAt_ok l 0 n s h (by omega)
  exact ⟨a, b, c, by simpa using d⟩
abbrev lt := Go.Op.bytesLess
theorem lt_cons (a b : UInt8) (x y : List UInt8) : lt (a :: x) (b :: y) = (decide (a < b) || (a == b && lt x y)) := rfl
theorem lt_nil_right (x : List UInt8) : lt x [] = false := by cases x <;> rfl
theorem lt_irrefl (x : List UInt8) : lt x x = false := by
  induction x with
  | nil => rfl
  | cons a x ih => rw [lt_cons, ih]; simp

def putField (t : List UInt8) : List UInt8 := putUint t.length ++ t
/-- text, size, error: 3: too long -/
def field (l : List UInt8) (most : Int) : List UInt8 × Nat × Nat :=
  if (uint l).2.2 ≠ 0 then ([], 0, (uint l).2.2)
  else if most < 0 ∨ most < ((uint l).1 : Int) then ([], 0, 3)
  else if l.length - (uint l).2.1 < (uint l).1 then ([], 0, 6)
  else ((l.drop (uint l).2.1).take (uint l).1, (uint l).2.1 + (uint l).1, 0)
theorem field_put (t l : List UInt8) (most : Int) (ht : t.length < 18446744073709551616) (hm : (t.length : Int) ≤ most) : field (putField t ++ l) most = (t, (putField t).length, 0) := by
  unfold field putField
  rw [List.append_assoc, uint_put ht]
  simp only [List.length_append]
  rw [if_neg (by simp), if_neg (by omega), if_neg (by omega)]
  simp
theorem field_ok {l t : List UInt8} {most : Int} {s : Nat} (h : field l most = (t, s, 0)) : putField t = l.take s ∧ 1 ≤ s ∧ s ≤ l.length ∧ (t.length : Int) ≤ most := by
  unfold field at h
  split at h
  · rename_i e
    simp only [Prod.mk.injEq] at h
    exact absurd h.2.2 e
  · rename_i e
    have e : (uint l).2.2 = 0 := by simpa using e
    split at h
    · simp at h
    · rename_i hm
      split at h
      · simp at h
      · rename_i hl
        obtain ⟨a, b, c, d⟩ := uint_ok (l := l) (n := (uint l).1) (s := (uint l).2.1) (by rw [← e])
        simp only [Prod.mk.injEq, and_true] at h
        obtain ⟨rfl, rfl⟩ := h
        have hlen : ((l.drop (uint l).2.1).take (uint l).1).length = (uint l).1 := by simp; omega
        refine ⟨?_, by omega, by omega, by rw [hlen]; omega⟩
        unfold putField
        rw [hlen, a, List.take_add]
end PCode
-- PBlock
namespace PBlock
open PCode
structure Row where
  key : List UInt8
  seq : Nat
  kind : Int
  value : List UInt8
def check (r : Row) : Nat :=
  if (r.kind ≠ 1 ∧ r.kind ≠ 2) ∨ r.key = [] ∨ (r.kind = 2 ∧ r.value ≠ []) ∨ r.seq = 0 ∨ 72057594037927935 < r.seq then 2
  else if 520 < r.key.length ∨ 2048 < r.value.length then 3 else 0
theorem check_ok {r : Row} (h : check r = 0) : (r.kind = 1 ∨ r.kind = 2) ∧ r.key ≠ [] ∧ (r.kind = 2 → r.value = []) ∧ 0 < r.seq ∧ r.seq ≤ 72057594037927935 ∧ r.key.length ≤ 520 ∧ r.value.length ≤ 2048 := by
  unfold check at h
  split at h
  · omega
  · rename_i h1
    split at h
    · omega
    · rename_i h2
      refine ⟨by omega, fun e => h1 (.inr (.inl e)), fun e => ?_, by omega, by omega, by omega, by omega⟩
      exact Classical.byContradiction fun f => h1 (.inr (.inr (.inl ⟨e, f⟩)))
def ahead (r : Row) (key : List UInt8) (seq : Nat) : Bool := lt r.key key || (r.key == key && decide (seq < r.seq))
def order : List Row → Bool
  | a :: b :: l => ahead a b.key b.seq && order (b :: l)
  | _ => true
theorem lt_trans {a b c : List UInt8} (h1 : lt a b = true) (h2 : lt b c = true) : lt a c = true := by
  induction a generalizing b c with
  | nil =>
    cases c with
    | nil => rw [lt_nil_right] at h2; cases h2
    | cons => rfl
  | cons x a ih =>
    cases b with
    | nil => rw [lt_nil_right] at h1; cases h1
    | cons y b =>
      cases c with
      | nil => rw [lt_nil_right] at h2; cases h2
      | cons z c =>
        simp only [lt_cons, Bool.or_eq_true, decide_eq_true_eq, Bool.and_eq_true, beq_iff_eq] at *
        rcases h1 with h1 | ⟨rfl, h1⟩
        · rcases h2 with h2 | ⟨rfl, _⟩
          · left; rw [UInt8.lt_iff_toNat_lt] at *; omega
          · left; exact h1
        · rcases h2 with h2 | ⟨rfl, h2⟩
          · left; exact h2
          · right; exact ⟨rfl, ih h1 h2⟩
theorem ahead_iff (r : Row) (k : List UInt8) (s : Nat) : ahead r k s = true ↔ lt r.key k = true ∨ (r.key = k ∧ s < r.seq) := by
  simp [ahead]
theorem ahead_trans {a b : Row} {k : List UInt8} {s : Nat} (h1 : ahead a b.key b.seq = true) (h2 : ahead b k s = true) : ahead a k s = true := by
  rw [ahead_iff] at *
  rcases h1 with h1 | ⟨e1, h1⟩
  · rcases h2 with h2 | ⟨e2, _⟩
    · left; exact lt_trans h1 h2
    · left; rw [← e2]; exact h1
  · rcases h2 with h2 | ⟨e2, h2⟩
    · left; rw [e1]; exact h2
    · right; exact ⟨e1.trans e2, by omega⟩
theorem order_tail {a : Row} {l : List Row} (h : order (a :: l) = true) : order l = true := by
  cases l with
  | nil => rfl
  | cons b l => simp only [order, Bool.and_eq_true] at h; exact h.2
theorem order_all {a : Row} {l : List Row} (h : order (a :: l) = true) : ∀ b ∈ l, ahead a b.key b.seq = true := by
  induction l generalizing a with
  | nil => intro b hb; cases hb
  | cons c l ih =>
    intro b hb
    have hc : ahead a c.key c.seq = true := by simp only [order, Bool.and_eq_true] at h; exact h.1
    rcases List.mem_cons.1 hb with rfl | hb
    · exact hc
    · exact ahead_trans hc (ih (order_tail h) b hb)
theorem order_at {l : List Row} (h : order l = true) {i j : Nat} (hij : i < j) (hj : j < l.length) : ahead (l[i]'(by omega)) (l[j]).key (l[j]).seq = true := by
  induction l generalizing i j with
  | nil => simp at hj
  | cons a l ih =>
    cases j with
    | zero => omega
    | succ j =>
      cases i with
      | zero => exact order_all h _ (List.getElem_mem _)
      | succ i => exact ih (order_tail h) (by omega) (by simpa using hj)
def common : List UInt8 → List UInt8 → Nat
  | a :: x, b :: y => if a = b then common x y + 1 else 0
  | _, _ => 0
theorem common_le : ∀ (x y : List UInt8), common x y ≤ x.length ∧ common x y ≤ y.length
  | [], _ => by simp [common]
  | _ :: _, [] => by simp [common]
  | a :: x, b :: y => by
    unfold common
    split
    · have := common_le x y; simp; omega
    · simp
def rowEnc (r : Row) (last : List UInt8) : List UInt8 :=
  putUint (common last r.key) ++ putField (r.key.drop (common last r.key)) ++ putUint r.seq ++ [UInt8.ofNat (r.kind % 256).toNat] ++ (if r.kind = 1 then putField r.value else [])
/-- a row and how many bytes it has -/
def read (s last : List UInt8) : Option (Row × Nat) :=
  if (uint s).2.2 ≠ 0 ∨ last.length < (uint s).1 then none
  else if (field (s.drop (uint s).2.1) 520).2.2 ≠ 0 then none
  else if (uint (s.drop ((uint s).2.1 + (field (s.drop (uint s).2.1) 520).2.1))).2.2 ≠ 0 ∨ (uint s).2.1 + (field (s.drop (uint s).2.1) 520).2.1 + (uint (s.drop ((uint s).2.1 + (field (s.drop (uint s).2.1) 520).2.1))).2.1 = s.length then none
  else
    let n := (uint s).2.1 + (field (s.drop (uint s).2.1) 520).2.1 + (uint (s.drop ((uint s).2.1 + (field (s.drop (uint s).2.1) 520).2.1))).2.1
    let key := last.take (uint s).1 ++ (field (s.drop (uint s).2.1) 520).1
    let seq := (uint (s.drop ((uint s).2.1 + (field (s.drop (uint s).2.1) 520).2.1))).1
    if (s.getD n 0) = 1 then
      if (field (s.drop (n + 1)) 2048).2.2 ≠ 0 then none
      else some (⟨key, seq, 1, (field (s.drop (n + 1)) 2048).1⟩, n + 1 + (field (s.drop (n + 1)) 2048).2.1)
    else some (⟨key, seq, ((s.getD n 0).toNat : Int), []⟩, n + 1)
theorem read_enc' (r : Row) (base last rest : List UInt8) (h : check r = 0) (hcl : common base r.key ≤ last.length) (hct : last.take (common base r.key) = r.key.take (common base r.key)) : read (rowEnc r base ++ rest) last = some (r, (rowEnc r base).length) := by
  obtain ⟨hk, hne, hv, hs0, hs1, hkl, hvl⟩ := check_ok h
  have hc := common_le base r.key
  obtain ⟨K, hK⟩ : ∃ K, K = r.key.drop (common base r.key) := ⟨_, rfl⟩
  obtain ⟨T, hT⟩ : ∃ T, T = (if r.kind = 1 then putField r.value else []) := ⟨_, rfl⟩
  have hKl : K.length ≤ 520 := by rw [hK]; simp; omega
  have e0 : rowEnc r base ++ rest = putUint (common base r.key) ++ (putField K ++ (putUint r.seq ++ (UInt8.ofNat (r.kind % 256).toNat :: (T ++ rest)))) := by
    unfold rowEnc; rw [← hK, ← hT]; simp [List.append_assoc]
  have u1 := uint_put (n := common base r.key) (by omega) (putField K ++ (putUint r.seq ++ (UInt8.ofNat (r.kind % 256).toNat :: (T ++ rest))))
  have f1 := field_put K (putUint r.seq ++ (UInt8.ofNat (r.kind % 256).toNat :: (T ++ rest))) 520 (by omega) (by omega)
  have u2 := uint_put (n := r.seq) (by omega) (UInt8.ofNat (r.kind % 256).toNat :: (T ++ rest))
  have d1 : (rowEnc r base ++ rest).drop (putUint (common base r.key)).length = putField K ++ (putUint r.seq ++ (UInt8.ofNat (r.kind % 256).toNat :: (T ++ rest))) := by rw [e0, List.drop_left]
  have d2 : (rowEnc r base ++ rest).drop ((putUint (common base r.key)).length + (putField K).length) = putUint r.seq ++ (UInt8.ofNat (r.kind % 256).toNat :: (T ++ rest)) := by rw [← List.drop_drop, d1, List.drop_left]
  have d3 : (rowEnc r base ++ rest).drop ((putUint (common base r.key)).length + (putField K).length + (putUint r.seq).length) = UInt8.ofNat (r.kind % 256).toNat :: (T ++ rest) := by rw [← List.drop_drop, d2, List.drop_left]
  have d4 : (rowEnc r base ++ rest).drop ((putUint (common base r.key)).length + (putField K).length + (putUint r.seq).length + 1) = T ++ rest := by rw [← List.drop_drop, d3]; rfl
  have g : (rowEnc r base ++ rest).getD ((putUint (common base r.key)).length + (putField K).length + (putUint r.seq).length) 0 = UInt8.ofNat (r.kind % 256).toNat := by
    have := congrArg (fun l => l[0]?) d3
    simp only [List.getElem?_drop, Nat.add_zero, List.getElem?_cons_zero] at this
    rw [List.getD_eq_getElem?_getD, this]; rfl
  have lens : (rowEnc r base ++ rest).length = (putUint (common base r.key)).length + (putField K).length + (putUint r.seq).length + 1 + T.length + rest.length := by
    rw [e0]; simp; omega
  have lenr : (rowEnc r base).length = (putUint (common base r.key)).length + (putField K).length + (putUint r.seq).length + 1 + T.length := by
    rw [List.length_append] at lens; omega
  have hkey : last.take (common base r.key) ++ K = r.key := by rw [hK, hct, List.take_append_drop]
  have us : uint (rowEnc r base ++ rest) = (common base r.key, (putUint (common base r.key)).length, 0) := by rw [e0]; exact u1
  unfold read
  simp only [us, d1, f1, d2, u2, d4, g]
  rw [if_neg (by omega), if_neg (by simp), if_neg (by omega)]
  rcases hk with hk | hk
  · rw [hk] at hT ⊢
    rw [if_pos rfl] at hT
    have e1 : (UInt8.ofNat ((1 : Int) % 256).toNat) = 1 := rfl
    rw [e1, if_pos rfl, hT, field_put r.value rest 2048 (by omega) (by omega)]
    rw [if_neg (by simp), lenr, hT, hkey]
    congr 2
    cases r; simp_all
  · rw [hk] at hT ⊢
    rw [if_neg (by omega)] at hT
    have e1 : (UInt8.ofNat ((2 : Int) % 256).toNat) = 2 := rfl
    rw [e1, if_neg (by decide), lenr, hT, hkey]
    have hv := hv hk
    congr 2
    cases r; simp_all
theorem read_enc_any (r : Row) (last rest : List UInt8) (h : check r = 0) : read (rowEnc r [] ++ rest) last = some (r, (rowEnc r []).length) :=
  read_enc' r [] last rest h (by simp [common]) (by simp [common])
theorem rowEnc_pos (r : Row) (last : List UInt8) : 4 ≤ (rowEnc r last).length := by
  have a := putUint_pos (common last r.key)
  have b := putUint_pos (r.key.drop (common last r.key)).length
  have c := putUint_pos r.seq
  unfold rowEnc putField
  simp only [List.length_append, List.length_cons, List.length_nil]
  omega
def enc (restart : Nat) : Nat → List UInt8 → List Row → List UInt8
  | _, _, [] => []
  | i, last, r :: l => rowEnc r (if i % restart = 0 then [] else last) ++ enc restart (i + 1) r.key l
/-- where the restarts begin -/
def ends (restart : Nat) : Nat → Nat → List UInt8 → List Row → List Nat
  | _, _, _, [] => []
  | i, off, last, r :: l => (if i % restart = 0 then [off] else []) ++ ends restart (i + 1) (off + (rowEnc r (if i % restart = 0 then [] else last)).length) r.key l
def four (n : Nat) : List UInt8 := [UInt8.ofNat (n % 256), UInt8.ofNat (n / 256 % 256), UInt8.ofNat (n / 65536 % 256), UInt8.ofNat (n / 16777216 % 256)]
def unfour (l : List UInt8) : Nat := (l.getD 0 0).toNat + 256 * (l.getD 1 0).toNat + 65536 * (l.getD 2 0).toNat + 16777216 * (l.getD 3 0).toNat
theorem four_length (n : Nat) : (four n).length = 4 := rfl
theorem unfour_four {n : Nat} (h : n < 4294967296) (l : List UInt8) : unfour (four n ++ l) = n := by
  unfold unfour four
  simp only [List.cons_append, List.nil_append, List.getD_cons_zero, List.getD_cons_succ]
  rw [toNat_ofNat_lt (by omega), toNat_ofNat_lt (by omega), toNat_ofNat_lt (by omega), toNat_ofNat_lt (by omega)]
  omega
def fours (l : List Nat) : List UInt8 := l.flatMap four
theorem fours_length (l : List Nat) : (fours l).length = 4 * l.length := by
  induction l with
  | nil => rfl
  | cons a l ih => simp only [fours, List.flatMap_cons, List.length_append, List.length_cons, four_length] at *; omega
def whole (l : List Row) (restart : Nat) : List UInt8 := enc restart 0 [] l ++ fours (ends restart 0 0 [] l) ++ four (ends restart 0 0 [] l).length ++ four restart
/-- bytes and error -/
def build (l : List Row) (restart : Int) : List UInt8 × Nat :=
  if restart < 1 ∨ 64 < restart ∨ order l = false ∨ (∃ r ∈ l, check r = 2) then ([], 2)
  else if 1024 < l.length ∨ (∃ r ∈ l, check r = 3) ∨ 65536 < (whole l restart.toNat).length then ([], 3)
  else (whole l restart.toNat, 0)
theorem build_ok {l : List Row} {restart : Int} {s : List UInt8} (h : build l restart = (s, 0)) :
    1 ≤ restart ∧ restart ≤ 64 ∧ order l = true ∧ (∀ r ∈ l, check r = 0) ∧ l.length ≤ 1024 ∧ s = whole l restart.toNat ∧ s.length ≤ 65536 := by
  unfold build at h
  split at h
  · simp at h
  · rename_i h1
    split at h
    · simp at h
    · rename_i h2
      simp only [Prod.mk.injEq, and_true] at h
      subst h
      refine ⟨by omega, by omega, ?_, fun r hr => ?_, by omega, rfl, by omega⟩
      · cases e : order l with
        | true => rfl
        | false => exact absurd (.inr (.inr (.inl e))) h1
      · have a : check r ≠ 2 := fun e => h1 (.inr (.inr (.inr ⟨r, hr, e⟩)))
        have b : check r ≠ 3 := fun e => h2 (.inr (.inl ⟨r, hr, e⟩))
        unfold check at a b ⊢
        split
        · simp_all
        · split <;> simp_all
theorem build_of {l : List Row} {restart : Int} (h1 : 1 ≤ restart) (h2 : restart ≤ 64) (h3 : order l = true) (h4 : ∀ r ∈ l, check r = 0) (h5 : l.length ≤ 1024) (h6 : (whole l restart.toNat).length ≤ 65536) : build l restart = (whole l restart.toNat, 0) := by
  unfold build
  rw [if_neg, if_neg]
  · rintro (h | ⟨r, hr, h⟩ | h)
    · omega
    · rw [h4 r hr] at h; omega
    · omega
  · rintro (h | h | h | ⟨r, hr, h⟩)
    · omega
    · omega
    · rw [h3] at h; cases h
    · rw [h4 r hr] at h; omega
/-- rows of bytes, behind some that were read; none: ill formed -/
def decode : Nat → List UInt8 → List UInt8 → Nat → Option (List Row)
  | 0, _, _, _ => none
  | fuel + 1, body, last, have_ =>
    if body = [] then some []
    else match read body last with
      | none => none
      | some (r, n) => if have_ = 1024 then none else (decode fuel (body.drop n) r.key (have_ + 1)).map (r :: ·)
/-- bytes that end in what is told, read as rows -/
def body (s : List UInt8) : List UInt8 := s.take (s.length - 8 - 4 * unfour (s.drop (s.length - 8)))
def rows (s : List UInt8) : List Row × Nat :=
  if s.length < 8 ∨ 65536 < s.length ∨ (s.length - 8) / 4 < unfour (s.drop (s.length - 8)) then ([], 7)
  else match decode (s.length + 1) (body s) [] 0 with
    | none => ([], 7)
    | some l => if build l (unfour (s.drop (s.length - 4)) : Int) = (s, 0) then (l, 0) else ([], 7)

theorem enc_length_le (restart : Nat) (l : List Row) : ∀ (i : Nat) (last : List UInt8), l.length ≤ (enc restart i last l).length := by
  induction l with
  | nil => intro i last; simp [enc]
  | cons r l ih =>
    intro i last
    have := ih (i + 1) r.key
    have := rowEnc_pos r (if i % restart = 0 then [] else last)
    simp only [enc, List.length_append, List.length_cons]
    omega
theorem ends_length_le (restart : Nat) (l : List Row) : ∀ (i off : Nat) (last : List UInt8), (ends restart i off last l).length ≤ l.length := by
  induction l with
  | nil => intro i off last; simp [ends]
  | cons r l ih =>
    intro i off last
    have := ih (i + 1) (off + (rowEnc r (if i % restart = 0 then [] else last)).length) r.key
    have h2 : (if i % restart = 0 then [off] else []).length ≤ 1 := by split <;> simp
    simp only [ends, List.length_append, List.length_cons]
    omega
theorem whole_length (l : List Row) (restart : Nat) : (whole l restart).length = (enc restart 0 [] l).length + 4 * (ends restart 0 0 [] l).length + 8 := by
  unfold whole
  simp only [List.length_append, fours_length, four_length]
/-- the three parts of a whole block -/
theorem whole_body (l : List Row) (restart : Nat) (h : l.length ≤ 1024) : body (whole l restart) = enc restart 0 [] l ∧ unfour ((whole l restart).drop ((whole l restart).length - 8)) = (ends restart 0 0 [] l).length := by
  have e1 : (whole l restart).drop ((whole l restart).length - 8) = four (ends restart 0 0 [] l).length ++ four restart := by
    rw [whole_length]
    unfold whole
    rw [show (enc restart 0 [] l).length + 4 * (ends restart 0 0 [] l).length + 8 - 8 = (enc restart 0 [] l ++ fours (ends restart 0 0 [] l)).length by simp [fours_length]]
    rw [List.append_assoc (enc restart 0 [] l ++ fours (ends restart 0 0 [] l)), List.drop_left]
  have hn := ends_length_le restart l 0 0 []
  have e2 : unfour ((whole l restart).drop ((whole l restart).length - 8)) = (ends restart 0 0 [] l).length := by
    rw [e1, unfour_four (by omega)]
  refine ⟨?_, e2⟩
  unfold body
  rw [e2, whole_length]
  rw [show (enc restart 0 [] l).length + 4 * (ends restart 0 0 [] l).length + 8 - 8 - 4 * (ends restart 0 0 [] l).length = (enc restart 0 [] l).length by omega]
  unfold whole
  rw [List.append_assoc, List.append_assoc, List.take_left]
theorem rows_ok {s : List UInt8} {l : List Row} (h : rows s = (l, 0)) : build l (unfour (s.drop (s.length - 4)) : Int) = (s, 0) := by
  unfold rows at h
  split at h
  · simp at h
  · split at h
    · simp at h
    · split at h
      · rename_i hb
        simp only [Prod.mk.injEq, and_true] at h
        subst h
        exact hb
      · simp at h
theorem rows_err (s : List UInt8) : (rows s).2 = 0 ∨ rows s = ([], 7) := by
  unfold rows
  split
  · right; rfl
  · split
    · right; rfl
    · split
      · left; rfl
      · right; rfl
def place : List Row → List UInt8 → Nat → Nat
  | r :: l, k, s => if ahead r k s then place l k s + 1 else 0
  | [], _, _ => 0
theorem place_le (l : List Row) (k : List UInt8) (s : Nat) : place l k s ≤ l.length := by
  induction l with
  | nil => simp [place]
  | cons r l ih => unfold place; split <;> simp <;> omega
theorem place_ahead {l : List Row} {k : List UInt8} {s : Nat} {i : Nat} (hi : i < place l k s) (hl : i < l.length) : ahead l[i] k s = true := by
  induction l generalizing i with
  | nil => simp at hl
  | cons r l ih =>
    unfold place at hi
    split at hi
    · rename_i h
      cases i with
      | zero => exact h
      | succ i => exact ih (by omega) (by simpa using hl)
    · omega
theorem place_stop {l : List Row} {k : List UInt8} {s : Nat} (h : place l k s < l.length) : ahead (l[place l k s]) k s = false := by
  induction l with
  | nil => simp at h
  | cons r l ih =>
    unfold place at h
    by_cases e : ahead r k s = true
    · have e1 : place (r :: l) k s = place l k s + 1 := by rw [place, if_pos e]
      simp only [e1, List.getElem_cons_succ]
      exact ih (by rw [if_pos e] at h; simpa using h)
    · have e1 : place (r :: l) k s = 0 := by rw [place, if_neg e]
      simp only [e1, List.getElem_cons_zero]
      simpa using e
/-- in order: just the first ones stand ahead -/
theorem place_iff {l : List Row} (h : order l = true) (k : List UInt8) (s : Nat) {i : Nat} (hi : i < l.length) : ahead l[i] k s = true ↔ i < place l k s := by
  constructor
  · intro ha
    rcases Nat.lt_or_ge i (place l k s) with g | g
    · exact g
    · have hp : place l k s < l.length := by omega
      have hs := place_stop hp
      rcases Nat.eq_or_lt_of_le g with e | e
      · simp only [e] at hs; rw [ha] at hs; cases hs
      · have := ahead_trans (order_at h e hi) ha
        rw [hs] at this; cases this
  · intro g; exact place_ahead g hi
def seek (s : List UInt8) (k : List UInt8) (n : Nat) : List Row × Nat :=
  if (rows s).2 ≠ 0 then ([], (rows s).2) else ((rows s).1.drop (place (rows s).1 k n), 0)
theorem enc_append (restart : Nat) (l m : List Row) : ∀ (i : Nat) (last : List UInt8), ∃ x, enc restart i last (l ++ m) = enc restart i last l ++ x ∧ m.length ≤ x.length := by
  induction l with
  | nil => intro i last; exact ⟨_, rfl, enc_length_le restart m i last⟩
  | cons r l ih =>
    intro i last
    obtain ⟨x, hx, hm⟩ := ih (i + 1) r.key
    exact ⟨x, by simp only [List.cons_append, enc]; rw [hx, List.append_assoc], hm⟩
end PBlock
-- PBlock2
namespace PBlock
open PCode
/-- the key behind which the next row is written -/
def lastOf : List UInt8 → List Row → List UInt8
  | k, [] => k
  | _, r :: l => lastOf r.key l
theorem lastOf_snoc (k : List UInt8) (l : List Row) (r : Row) : lastOf k (l ++ [r]) = r.key := by
  induction l generalizing k with
  | nil => rfl
  | cons a l ih => exact ih a.key
theorem enc_snoc (restart : Nat) (l : List Row) (r : Row) : ∀ (k : Nat) (last : List UInt8), enc restart k last (l ++ [r]) = enc restart k last l ++ rowEnc r (if (k + l.length) % restart = 0 then [] else lastOf last l) := by
  induction l with
  | nil => intro k last; simp [enc, lastOf]
  | cons a l ih =>
    intro k last
    simp only [List.cons_append, enc, ih (k + 1) a.key, lastOf, List.append_assoc, List.length_cons]
    rw [show k + 1 + l.length = k + (l.length + 1) by omega]
theorem ends_snoc (restart : Nat) (l : List Row) (r : Row) : ∀ (k off : Nat) (last : List UInt8), ends restart k off last (l ++ [r]) = ends restart k off last l ++ (if (k + l.length) % restart = 0 then [off + (enc restart k last l).length] else []) := by
  induction l with
  | nil => intro k off last; simp [enc, ends]
  | cons a l ih =>
    intro k off last
    simp only [List.cons_append, enc, ends, ih (k + 1) _ a.key, List.append_assoc, List.length_cons, List.length_append]
    rw [show k + 1 + l.length = k + (l.length + 1) by omega]
    congr 2
    split
    · rw [show off + (rowEnc a (if k % restart = 0 then [] else last)).length + (enc restart (k + 1) a.key l).length = off + ((rowEnc a (if k % restart = 0 then [] else last)).length + (enc restart (k + 1) a.key l).length) by omega]
    · rfl
theorem fours_append (a b : List Nat) : fours (a ++ b) = fours a ++ fours b := by simp [fours]
/-- a row is not long -/
theorem rowEnc_le (r : Row) (last : List UInt8) (h : check r = 0) : (rowEnc r last).length ≤ 3000 := by
  obtain ⟨_, _, _, h1, h2, h3, h4⟩ := check_ok h
  have hc := common_le last r.key
  have hd : (r.key.drop (common last r.key)).length ≤ 520 := by rw [List.length_drop]; omega
  have a := putUint_length_ten (n := common last r.key) (by omega)
  have b := putUint_length_ten (n := (r.key.drop (common last r.key)).length) (by omega)
  have c := putUint_length_ten (n := r.seq) (by omega)
  have d := putUint_length_ten (n := r.value.length) (by omega)
  have e : (if r.kind = 1 then putField r.value else []).length ≤ 2058 := by
    split
    · unfold putField; rw [List.length_append]; omega
    · simp
  unfold rowEnc
  unfold putField at *
  simp only [List.length_append, List.length_cons, List.length_nil] at *
  omega
theorem enc_mono (restart : Nat) (l m : List Row) (k : Nat) (last : List UInt8) : (enc restart k last l).length ≤ (enc restart k last (l ++ m)).length := by
  obtain ⟨x, hx, _⟩ := enc_append restart l m k last
  rw [hx, List.length_append]; exact Nat.le_add_right _ _
theorem enc_take_le (restart : Nat) (l : List Row) (n k : Nat) (last : List UInt8) : (enc restart k last (l.take n)).length ≤ (enc restart k last l).length := by
  have := enc_mono restart (l.take n) (l.drop n) k last
  rwa [List.take_append_drop] at this
/-- what a block has when one of its parts is too long -/
theorem build_far {l : List Row} {restart : Int} (h : ¬ (restart < 1 ∨ 64 < restart ∨ order l = false ∨ ∃ r ∈ l, check r = 2)) {n : Nat} (h2 : 65536 < (enc restart.toNat 0 [] (l.take n)).length) : build l restart = ([], 3) := by
  have h3 := enc_take_le restart.toNat l n 0 []
  have h4 := whole_length l restart.toNat
  have h5 : 65536 < (whole l restart.toNat).length := by omega
  unfold build
  rw [if_neg h, if_pos (.inr (.inr h5))]
section
variable {s last K V : List UInt8} {sh n1 e1 m1 e2 q m2 e3 k e4 : Nat}
theorem read_a (hu : uint s = (sh, n1, e1)) (h : e1 ≠ 0 ∨ last.length < sh) : read s last = none := by
  unfold read; simp only [hu]; rw [if_pos h]
theorem read_b (hu : uint s = (sh, n1, 0)) (h1 : sh ≤ last.length) (hf : field (s.drop n1) 520 = (K, m1, e2)) (h : e2 ≠ 0) : read s last = none := by
  unfold read; simp only [hu, hf]; rw [if_neg (by omega), if_pos h]
theorem read_c (hu : uint s = (sh, n1, 0)) (h1 : sh ≤ last.length) (hf : field (s.drop n1) 520 = (K, m1, 0)) (hv : uint (s.drop (n1 + m1)) = (q, m2, e3)) (h : e3 ≠ 0 ∨ n1 + m1 + m2 = s.length) : read s last = none := by
  unfold read; simp only [hu, hf, hv]; rw [if_neg (by omega), if_neg (by omega), if_pos h]
theorem read_d (hu : uint s = (sh, n1, 0)) (h1 : sh ≤ last.length) (hf : field (s.drop n1) 520 = (K, m1, 0)) (hv : uint (s.drop (n1 + m1)) = (q, m2, 0)) (h : n1 + m1 + m2 ≠ s.length) (hc : s.getD (n1 + m1 + m2) 0 ≠ 1) :
    read s last = some (⟨last.take sh ++ K, q, ((s.getD (n1 + m1 + m2) 0).toNat : Int), []⟩, n1 + m1 + m2 + 1) := by
  unfold read; simp only [hu, hf, hv]; rw [if_neg (by omega), if_neg (by omega), if_neg (by omega), if_neg hc]
theorem read_e (hu : uint s = (sh, n1, 0)) (h1 : sh ≤ last.length) (hf : field (s.drop n1) 520 = (K, m1, 0)) (hv : uint (s.drop (n1 + m1)) = (q, m2, 0)) (h : n1 + m1 + m2 ≠ s.length) (hc : s.getD (n1 + m1 + m2) 0 = 1)
    (hg : field (s.drop (n1 + m1 + m2 + 1)) 2048 = (V, k, e4)) (h4 : e4 ≠ 0) : read s last = none := by
  unfold read; simp only [hu, hf, hv, hg]; rw [if_neg (by omega), if_neg (by omega), if_neg (by omega), if_pos hc, if_pos h4]
theorem read_f (hu : uint s = (sh, n1, 0)) (h1 : sh ≤ last.length) (hf : field (s.drop n1) 520 = (K, m1, 0)) (hv : uint (s.drop (n1 + m1)) = (q, m2, 0)) (h : n1 + m1 + m2 ≠ s.length) (hc : s.getD (n1 + m1 + m2) 0 = 1)
    (hg : field (s.drop (n1 + m1 + m2 + 1)) 2048 = (V, k, 0)) : read s last = some (⟨last.take sh ++ K, q, 1, V⟩, n1 + m1 + m2 + 1 + k) := by
  unfold read; simp only [hu, hf, hv, hg]; rw [if_neg (by omega), if_neg (by omega), if_neg (by omega), if_pos hc, if_neg (by simp)]
end
theorem read_bounds {s last : List UInt8} {r : Row} {n : Nat} (h : read s last = some (r, n)) : 1 ≤ n ∧ n ≤ s.length ∧ r.seq < 18446744073709551616 ∧ r.key.length ≤ last.length + 520 ∧ r.value.length ≤ 2048 := by
  obtain ⟨⟨sh, n1, e1⟩, hu⟩ : ∃ x, uint s = x := ⟨_, rfl⟩
  by_cases h1 : e1 ≠ 0 ∨ last.length < sh
  · rw [read_a hu h1] at h; cases h
  obtain rfl : e1 = 0 := by omega
  obtain ⟨⟨K, m1, e2⟩, hf⟩ : ∃ x, field (s.drop n1) 520 = x := ⟨_, rfl⟩
  by_cases h2 : e2 = 0
  case neg => rw [read_b hu (by omega) hf h2] at h; cases h
  subst h2
  obtain ⟨⟨q, m2, e3⟩, hv⟩ : ∃ x, uint (s.drop (n1 + m1)) = x := ⟨_, rfl⟩
  have u1 := uint_ok hu
  have f1 := field_ok hf
  rw [List.length_drop] at f1
  by_cases h3 : e3 ≠ 0 ∨ n1 + m1 + m2 = s.length
  · rw [read_c hu (by omega) hf hv h3] at h; cases h
  obtain rfl : e3 = 0 := by omega
  have u2 := uint_ok hv
  rw [List.length_drop] at u2
  by_cases hc : s.getD (n1 + m1 + m2) 0 = 1
  · obtain ⟨⟨V, k, e4⟩, hg⟩ : ∃ x, field (s.drop (n1 + m1 + m2 + 1)) 2048 = x := ⟨_, rfl⟩
    by_cases h4 : e4 = 0
    case neg => rw [read_e hu (by omega) hf hv (by omega) hc hg h4] at h; cases h
    subst h4
    rw [read_f hu (by omega) hf hv (by omega) hc hg] at h
    have f2 := field_ok hg
    rw [List.length_drop] at f2
    simp only [Option.some.injEq, Prod.mk.injEq] at h
    obtain ⟨rfl, rfl⟩ := h
    refine ⟨by omega, by omega, u2.2.2.2, ?_, by show V.length ≤ 2048; omega⟩
    show (last.take sh ++ K).length ≤ _
    rw [List.length_append, List.length_take]; omega
  · rw [read_d hu (by omega) hf hv (by omega) hc] at h
    simp only [Option.some.injEq, Prod.mk.injEq] at h
    obtain ⟨rfl, rfl⟩ := h
    refine ⟨by omega, by omega, u2.2.2.2, ?_, Nat.zero_le _⟩
    show (last.take sh ++ K).length ≤ _
    rw [List.length_append, List.length_take]; omega
/-- where the restarts lie -/
def restarts (s : List UInt8) : List Nat := (List.range (unfour (s.drop (s.length - 8)))).map fun j => unfour (s.drop (s.length - 8 - 4 * unfour (s.drop (s.length - 8)) + 4 * j))
theorem unfour_lt (l : List UInt8) : unfour l < 4294967296 := by
  have h := fun c : UInt8 => c.toNat_lt
  have a := h (l.getD 0 0)
  have b := h (l.getD 1 0)
  have c := h (l.getD 2 0)
  have d := h (l.getD 3 0)
  unfold unfour
  omega
theorem rows_of {s : List UInt8} (h : ¬ (s.length < 8 ∨ 65536 < s.length ∨ (s.length - 8) / 4 < unfour (s.drop (s.length - 8)))) :
    rows s = match decode (s.length + 1) (body s) [] 0 with | none => ([], 7) | some l => if build l (unfour (s.drop (s.length - 4)) : Int) = (s, 0) then (l, 0) else ([], 7) := by
  unfold rows; rw [if_neg h]; first | done | rfl
theorem rows_some {s : List UInt8} (h : ¬ (s.length < 8 ∨ 65536 < s.length ∨ (s.length - 8) / 4 < unfour (s.drop (s.length - 8)))) {l : List Row} (hd : decode (s.length + 1) (body s) [] 0 = some l) :
    rows s = if build l (unfour (s.drop (s.length - 4)) : Int) = (s, 0) then (l, 0) else ([], 7) := by
  rw [rows_of h, hd]
theorem rows_none {s : List UInt8} (h : ¬ (s.length < 8 ∨ 65536 < s.length ∨ (s.length - 8) / 4 < unfour (s.drop (s.length - 8)))) (hd : decode (s.length + 1) (body s) [] 0 = none) : rows s = ([], 7) := by
  rw [rows_of h, hd]
theorem rows_bad {s : List UInt8} (h : s.length < 8 ∨ 65536 < s.length ∨ (s.length - 8) / 4 < unfour (s.drop (s.length - 8))) : rows s = ([], 7) := by
  unfold rows; rw [if_pos h]
theorem decode_go {fuel : Nat} {b last : List UInt8} {hv : Nat} (h : b ≠ []) {r : Row} {n : Nat} (hr : read b last = some (r, n)) (h1 : hv ≠ 1024) : decode (fuel + 1) b last hv = (decode fuel (b.drop n) r.key (hv + 1)).map (r :: ·) := by
  rw [decode, if_neg h, hr]; simp only; rw [if_neg h1]
theorem decode_bad {fuel : Nat} {b last : List UInt8} {hv : Nat} (h : b ≠ []) (hr : read b last = none) : decode (fuel + 1) b last hv = none := by
  rw [decode, if_neg h, hr]
theorem decode_many {fuel : Nat} {b last : List UInt8} {hv : Nat} (h : b ≠ []) {r : Row} {n : Nat} (hr : read b last = some (r, n)) (h1 : hv = 1024) : decode (fuel + 1) b last hv = none := by
  rw [decode, if_neg h, hr]; simp only; rw [if_pos h1]
theorem decode_end {fuel : Nat} {last : List UInt8} {hv : Nat} : decode (fuel + 1) [] last hv = some [] := by rw [decode, if_pos rfl]
end PBlock
-- PBlock3
namespace PBlock
open PCode
def ceilDiv (i R : Nat) : Nat := (i + R - 1) / R
theorem ceil_zero {R : Nat} (h : 0 < R) : ceilDiv 0 R = 0 := by
  unfold ceilDiv; exact Nat.div_eq_of_lt (by omega)
theorem ceil_hit {i R : Nat} (h : 0 < R) (h0 : i % R = 0) : R * ceilDiv i R = i ∧ ceilDiv (i + 1) R = ceilDiv i R + 1 := by
  have e : i = R * (i / R) := by have := Nat.div_add_mod i R; omega
  have e1 : ceilDiv i R = i / R := by
    unfold ceilDiv
    have h1 : (R - 1) / R = 0 := Nat.div_eq_of_lt (by omega)
    rw [show i + R - 1 = R * (i / R) + (R - 1) by omega, Nat.mul_add_div h, h1, Nat.add_zero]
  have e2 : ceilDiv (i + 1) R = i / R + 1 := by
    unfold ceilDiv
    rw [show i + 1 + R - 1 = i + R by omega, Nat.add_div_right _ h]
  rw [e1, e2]
  exact ⟨e.symm, rfl⟩
theorem ceil_miss {i R : Nat} (h : 0 < R) (h0 : i % R ≠ 0) : ceilDiv (i + 1) R = ceilDiv i R := by
  have hm := Nat.mod_lt i h
  have e := Nat.div_add_mod i R
  unfold ceilDiv
  rw [show i + 1 + R - 1 = i + R by omega, Nat.add_div_right _ h]
  have h1 : (i % R - 1) / R = 0 := Nat.div_eq_of_lt (by omega)
  rw [show i + R - 1 = R * (i / R) + (R + (i % R - 1)) by omega, Nat.mul_add_div h, Nat.add_div_left _ h, h1]
theorem ends_row {R : Nat} (hR : 0 < R) (l : List Row) : ∀ (i off : Nat) (last : List UInt8) (j x : Nat), (ends R i off last l)[j]? = some x →
    ∃ k, ∃ hk : k < l.length, i + k = R * (ceilDiv i R + j) ∧ off ≤ x ∧ x ≤ off + (enc R i last l).length ∧ ∃ rest, (enc R i last l).drop (x - off) = rowEnc l[k] [] ++ rest := by
  induction l with
  | nil => intro i off last j x h; simp [ends] at h
  | cons r l ih =>
    intro i off last j x h
    simp only [ends, enc] at h ⊢
    by_cases h0 : i % R = 0
    · simp only [if_pos h0] at h ⊢
      obtain ⟨c1, c2⟩ := ceil_hit hR h0
      cases j with
      | zero =>
        simp only [List.cons_append, List.nil_append, List.getElem?_cons_zero, Option.some.injEq] at h
        subst h
        exact ⟨0, by simp, by rw [Nat.add_zero, Nat.add_zero, c1], Nat.le_refl _, Nat.le_add_right _ _, _, by rw [Nat.sub_self, List.drop_zero]; rfl⟩
      | succ j =>
        simp only [List.cons_append, List.nil_append, List.getElem?_cons_succ] at h
        obtain ⟨k, hk, e1, e2, e3, rest, e4⟩ := ih _ _ _ _ _ h
        refine ⟨k + 1, by simpa using hk, ?_, by omega, by rw [List.length_append]; omega, rest, ?_⟩
        · rw [c2] at e1; rw [show i + (k + 1) = i + 1 + k by omega, e1, show ceilDiv i R + 1 + j = ceilDiv i R + (j + 1) by omega]
        · rw [show x - off = (rowEnc r []).length + (x - (off + (rowEnc r []).length)) by omega, ← List.drop_drop, List.drop_left]
          exact e4
    · simp only [if_neg h0, List.nil_append] at h ⊢
      obtain ⟨k, hk, e1, e2, e3, rest, e4⟩ := ih _ _ _ _ _ h
      refine ⟨k + 1, by simpa using hk, ?_, by omega, by rw [List.length_append]; omega, rest, ?_⟩
      · rw [ceil_miss hR h0] at e1; rw [show i + (k + 1) = i + 1 + k by omega, e1]
      · rw [show x - off = (rowEnc r last).length + (x - (off + (rowEnc r last).length)) by omega, ← List.drop_drop, List.drop_left]
        exact e4
/-- at a restart a row is read as it is -/
theorem read_restart {R : Nat} (hR : 0 < R) {l : List Row} (hc : ∀ r ∈ l, check r = 0) {j x : Nat} (h : (ends R 0 0 [] l)[j]? = some x) :
    ∃ hk : R * j < l.length, x ≤ (enc R 0 [] l).length ∧ ∃ n, read ((enc R 0 [] l).drop x) [] = some (l[R * j], n) := by
  obtain ⟨k, hk, e1, _, e3, rest, e4⟩ := ends_row hR l 0 0 [] j x h
  rw [ceil_zero hR, Nat.zero_add, Nat.zero_add] at e1
  subst e1
  rw [Nat.sub_zero] at e4
  exact ⟨hk, by omega, _, by rw [e4]; exact read_enc_any _ _ _ (hc _ (List.getElem_mem _))⟩
theorem fours_get (E : List Nat) (h : ∀ x ∈ E, x < 4294967296) (j : Nat) (rest : List UInt8) (hj : j < E.length) : unfour ((fours E ++ rest).drop (4 * j)) = E[j] := by
  induction E generalizing j with
  | nil => simp at hj
  | cons a E ih =>
    cases j with
    | zero =>
      simp only [fours, List.flatMap_cons, Nat.mul_zero, List.drop_zero, List.append_assoc, List.getElem_cons_zero]
      exact unfour_four (h a List.mem_cons_self) _
    | succ j =>
      have : (fours (a :: E) ++ rest).drop (4 * (j + 1)) = (fours E ++ rest).drop (4 * j) := by
        simp only [fours, List.flatMap_cons, List.append_assoc]
        rw [show 4 * (j + 1) = (four a).length + 4 * j by rw [four_length]; omega, ← List.drop_drop, List.drop_left]
      rw [this, List.getElem_cons_succ]
      exact ih (fun x hx => h x (List.mem_cons_of_mem _ hx)) j (by simpa using hj)
theorem restarts_whole {l : List Row} {R : Nat} (hR : 0 < R) (h : l.length ≤ 1024) (h2 : (whole l R).length ≤ 65536) : restarts (whole l R) = ends R 0 0 [] l := by
  obtain ⟨_, e2⟩ := whole_body l R h
  have hl := whole_length l R
  unfold restarts
  rw [e2, hl, show (enc R 0 [] l).length + 4 * (ends R 0 0 [] l).length + 8 - 8 - 4 * (ends R 0 0 [] l).length = (enc R 0 [] l).length by omega]
  have hb : ∀ x ∈ ends R 0 0 [] l, x < 4294967296 := fun x hx => by
    obtain ⟨j, hj, e⟩ := List.mem_iff_getElem.1 hx
    obtain ⟨_, _, _, _, e3, _⟩ := ends_row hR l 0 0 [] j x (by rw [List.getElem?_eq_getElem hj, e])
    omega
  have hw : whole l R = enc R 0 [] l ++ (fours (ends R 0 0 [] l) ++ (four (ends R 0 0 [] l).length ++ four R)) := by unfold whole; simp only [List.append_assoc]
  apply List.ext_getElem
  · rw [List.length_map, List.length_range]
  · intro j h1 h3
    rw [List.length_map, List.length_range] at h1
    rw [List.getElem_map, List.getElem_range, hw, ← List.drop_drop, List.drop_left]
    exact fours_get _ hb j _ h1
/-- rows that were read, and what they were built of -/
theorem rows_good {s : List UInt8} {l : List Row} (h : rows s = (l, 0)) : ∃ R : Nat, unfour (s.drop (s.length - 4)) = R ∧ 1 ≤ R ∧ R ≤ 64 ∧ order l = true ∧ (∀ r ∈ l, check r = 0) ∧ l.length ≤ 1024 ∧ s = whole l R ∧ s.length ≤ 65536 ∧ body s = enc R 0 [] l ∧ restarts s = ends R 0 0 [] l ∧
    ¬ (s.length < 8 ∨ 65536 < s.length ∨ (s.length - 8) / 4 < unfour (s.drop (s.length - 8))) := by
  obtain ⟨h1, h2, h3, h4, h5, h6, h7⟩ := build_ok (rows_ok h)
  refine ⟨_, rfl, by omega, by omega, h3, h4, h5, ?_⟩
  rw [Int.toNat_natCast] at h6
  generalize unfour (s.drop (s.length - 4)) = R at *
  subst h6
  obtain ⟨e1, e2⟩ := whole_body l R h5
  have hl := whole_length l R
  refine ⟨rfl, h7, e1, restarts_whole (by omega) h5 h7, ?_⟩
  rw [e2]
  omega
/-- a restart whose row is ahead of a place is ahead of it -/
theorem from_le {l : List Row} (ho : order l = true) {R j : Nat} {k : List UInt8} {s : Nat} (hk : R * j < l.length) (ha : ahead l[R * j] k s = true) : R * j ≤ place l k s :=
  Nat.le_of_lt ((place_iff ho k s hk).1 ha)
theorem seek_ok {s : List UInt8} {l : List Row} (h : rows s = (l, 0)) (k : List UInt8) (n : Nat) : seek s k n = (l.drop (place l k n), 0) := by
  unfold seek; rw [h]; rfl
theorem seek_err {s : List UInt8} (h : (rows s).2 ≠ 0) (k : List UInt8) (n : Nat) : seek s k n = ([], (rows s).2) := by
  unfold seek; rw [if_pos h]
end PBlock
