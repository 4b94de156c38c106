/- Plain theory (PBloom), without any program. -/
namespace PBloom
/-! texts of bits -/
def bitOf (b : List UInt8) (i : Nat) : Bool := (b.getD (i / 8) 0).toNat.testBit (i % 8)
def setBit (b : List UInt8) (i : Nat) : List UInt8 := b.set (i / 8) (b.getD (i / 8) 0 ||| UInt8.ofNat (2 ^ (i % 8)))
theorem setBit_length (b : List UInt8) (i : Nat) : (setBit b i).length = b.length := by simp [setBit]
theorem two_pow_small (i : Nat) : 2 ^ (i % 8) < 256 := by
  have : i % 8 < 8 := by omega
  exact Nat.pow_lt_pow_right (n := 8) (by omega) this
theorem bitOf_setBit (b : List UInt8) (i j : Nat) (hi : i / 8 < b.length) : bitOf (setBit b i) j = (decide (j = i) || bitOf b j) := by
  unfold bitOf setBit
  simp only [List.getD_eq_getElem?_getD, List.getElem?_set]
  by_cases h : i / 8 = j / 8
  · rw [if_pos h, if_pos hi]
    rw [h]
    simp only [Option.getD_some, UInt8.toNat_or, Nat.testBit_or]
    have e : (UInt8.ofNat (2 ^ (i % 8))).toNat = 2 ^ (i % 8) := by
      have := two_pow_small i
      simp; omega
    rw [e, Nat.testBit_two_pow, Bool.or_comm]
    congr 1
    rw [Bool.eq_iff_iff]
    simp only [decide_eq_true_eq]
    omega
  · rw [if_neg h]
    have : ¬ j = i := by rintro rfl; exact h rfl
    simp [this]
theorem ext_bits {a b : List UInt8} (hl : a.length = b.length) (h : ∀ i, i < 8 * a.length → bitOf a i = bitOf b i) : a = b := by
  apply List.ext_getElem hl
  intro q h1 h2
  rw [← UInt8.toNat_inj]
  apply Nat.eq_of_testBit_eq
  intro s
  by_cases hs : s < 8
  · have := h (8 * q + s) (by omega)
    unfold bitOf at this
    rw [show (8 * q + s) / 8 = q by omega, show (8 * q + s) % 8 = s by omega] at this
    rw [List.getD_eq_getElem?_getD, List.getD_eq_getElem?_getD, List.getElem?_eq_getElem h1, List.getElem?_eq_getElem h2] at this
    exact this
  · have g : ∀ c : UInt8, c.toNat.testBit s = false := by
      intro c
      apply Nat.testBit_lt_two_pow
      have h8 : 2 ^ 8 ≤ 2 ^ s := Nat.pow_le_pow_right (by omega) (by omega)
      have := c.toNat_lt
      omega
    rw [g, g]
def setAll (b : List UInt8) (l : List Nat) : List UInt8 := l.foldl setBit b
theorem setAll_length (b : List UInt8) (l : List Nat) : (setAll b l).length = b.length := by
  induction l generalizing b with
  | nil => rfl
  | cons i l ih => exact (ih (setBit b i)).trans (setBit_length b i)
theorem bitOf_setAll (b : List UInt8) (l : List Nat) (j : Nat) (h : ∀ i ∈ l, i / 8 < b.length) : bitOf (setAll b l) j = (decide (j ∈ l) || bitOf b j) := by
  induction l generalizing b with
  | nil => simp [setAll]
  | cons i l ih =>
    show bitOf (setAll (setBit b i) l) j = _
    rw [ih (setBit b i) (fun k hk => by rw [setBit_length]; exact h k (List.mem_cons_of_mem _ hk)), bitOf_setBit b i j (h i List.mem_cons_self)]
    rw [← Bool.or_assoc]
    congr 1
    rw [Bool.eq_iff_iff]
    simp only [Bool.or_eq_true, decide_eq_true_eq, List.mem_cons]
    exact Or.comm
theorem setAll_append (b : List UInt8) (l m : List Nat) : setAll b (l ++ m) = setAll (setAll b l) m := by simp [setAll, List.foldl_append]
def zeros (n : Nat) : List UInt8 := List.replicate n 0
theorem bitOf_zeros (n i : Nat) : bitOf (zeros n) i = false := by
  unfold bitOf zeros
  simp only [List.getD_eq_getElem?_getD, List.getElem?_replicate]
  split <;> simp
/-- which bits are set says all -/
theorem setAll_eq {n : Nat} {l m : List Nat} (hl : ∀ i ∈ l, i / 8 < n) (hm : ∀ i ∈ m, i / 8 < n) (h : ∀ i, i ∈ l ↔ i ∈ m) : setAll (zeros n) l = setAll (zeros n) m := by
  have z : (zeros n).length = n := by simp [zeros]
  apply ext_bits
  · rw [setAll_length, setAll_length]
  · intro i _
    rw [bitOf_setAll _ _ _ (by rw [z]; exact hl), bitOf_setAll _ _ _ (by rw [z]; exact hm), bitOf_zeros]
    simp [h i]
/-! how many ones -/
def pop : Nat → Nat → Nat
  | 0, _ => 0
  | k + 1, c => c % 2 + pop k (c / 2)
def ones (b : List UInt8) : Nat := (b.map fun c => pop 8 c.toNat).sum
theorem pop_le (k c : Nat) : pop k c ≤ k := by
  induction k generalizing c with
  | zero => exact Nat.le_refl _
  | succ k ih => have := ih (c / 2); simp only [pop]; omega
theorem pop_or (k : Nat) : ∀ (c i : Nat), pop k (c ||| 2 ^ i) ≤ pop k c + 1 := by
  induction k with
  | zero => intro c i; simp [pop]
  | succ k ih =>
    intro c i
    simp only [pop]
    cases i with
    | zero =>
      have e : (c ||| 2 ^ 0) / 2 = c / 2 := by
        apply Nat.eq_of_testBit_eq; intro j
        rw [Nat.testBit_div_two, Nat.testBit_div_two, Nat.testBit_or, Nat.testBit_two_pow]
        simp
      rw [e]; omega
    | succ i =>
      have e : (c ||| 2 ^ (i + 1)) / 2 = c / 2 ||| 2 ^ i := by
        apply Nat.eq_of_testBit_eq; intro j
        rw [Nat.testBit_div_two, Nat.testBit_or, Nat.testBit_or, Nat.testBit_div_two, Nat.testBit_two_pow, Nat.testBit_two_pow]
        simp
      have e2 : (c ||| 2 ^ (i + 1)) % 2 = c % 2 := by
        have h1 : ∀ x : Nat, x % 2 = (x.testBit 0).toNat := by intro x; rw [Nat.testBit_zero]; by_cases h : x % 2 = 1 <;> simp [h] <;> omega
        rw [h1, h1, Nat.testBit_or, Nat.testBit_two_pow]; simp
      have := ih (c / 2) i
      rw [e, e2]; omega
theorem ones_set (b : List UInt8) (i : Nat) (c : UInt8) (h : i < b.length) : ones (b.set i c) + pop 8 (b[i]).toNat = ones b + pop 8 c.toNat := by
  induction b generalizing i with
  | nil => simp at h
  | cons d b ih =>
    cases i with
    | zero => simp [ones]; omega
    | succ i =>
      have := ih i (by simpa using h)
      simp only [ones, List.set_cons_succ, List.map_cons, List.sum_cons, List.getElem_cons_succ] at this ⊢
      omega
theorem ones_setBit (b : List UInt8) (i : Nat) : ones (setBit b i) ≤ ones b + 1 := by
  unfold setBit
  by_cases h : i / 8 < b.length
  · have e := ones_set b (i / 8) (b.getD (i / 8) 0 ||| UInt8.ofNat (2 ^ (i % 8))) h
    have e2 : (b.getD (i / 8) 0 ||| UInt8.ofNat (2 ^ (i % 8))).toNat = (b[i / 8]).toNat ||| 2 ^ (i % 8) := by
      have := two_pow_small i
      rw [UInt8.toNat_or, List.getD_eq_getElem?_getD, List.getElem?_eq_getElem h]
      simp only [Option.getD_some]
      congr 1
      simp; omega
    rw [e2] at e
    have := pop_or 8 (b[i / 8]).toNat (i % 8)
    omega
  · rw [List.set_eq_of_length_le (by omega)]; omega
theorem ones_setAll (b : List UInt8) (l : List Nat) : ones (setAll b l) ≤ ones b + l.length := by
  induction l generalizing b with
  | nil => simp [setAll]
  | cons i l ih =>
    have := ih (setBit b i)
    have := ones_setBit b i
    simp only [setAll, List.foldl_cons, List.length_cons] at *
    omega
theorem ones_zeros (n : Nat) : ones (zeros n) = 0 := by
  induction n with
  | zero => rfl
  | succ n ih => simp only [ones, zeros, List.replicate_succ, List.map_cons, List.sum_cons] at *; rw [ih]; rfl
end PBloom
