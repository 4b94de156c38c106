/- Texts of this claim, joined by a program of this session (wip/pack.py): PCrc, PBloom. -/

-- PCrc
namespace PCrc
def poly : BitVec 32 := 0x82F63B78#32
def z (r : BitVec 32) : BitVec 32 := if r.getLsbD 0 then (r >>> 1) ^^^ poly else r >>> 1
theorem z_xor (a b : BitVec 32) : z (a ^^^ b) = z a ^^^ z b := by
 have e : (a ^^^ b).getLsbD 0 = (a.getLsbD 0 ^^ b.getLsbD 0) := BitVec.getLsbD_xor
 unfold z
 rw [e, BitVec.ushiftRight_xor_distrib]
 generalize a >>> 1 = x
 generalize b >>> 1 = y
 cases a.getLsbD 0 <;> cases b.getLsbD 0 <;> simp only [Bool.false_xor, Bool.true_xor, Bool.not_true, Bool.not_false, if_true, if_false, Bool.false_eq_true] <;> ext i <;> simp only [BitVec.getElem_xor] <;> cases x[i] <;> cases y[i] <;> cases poly[i] <;> rfl
theorem z_zero : z 0 = 0 := by decide
theorem z_eq_zero {a : BitVec 32} (h : z a = 0) : a = 0 := by
 unfold z at h
 cases ha : a.getLsbD 0 with
 | true =>
  rw [ha] at h
  have := congrArg (fun x => x.getLsbD 31) h
  simp [poly] at this
 | false =>
  rw [ha] at h
  simp at h
  apply BitVec.eq_of_getLsbD_eq
  intro i hi
  match i, hi with
  | 0, _ => simpa using ha
  | i + 1, hi =>
   have := congrArg (fun x => x.getLsbD i) h
   simpa [Nat.add_comm] using this
def zs : Nat → BitVec 32 → BitVec 32
 | 0, r => r
 | n + 1, r => zs n (z r)
theorem zs_xor (n : Nat) (a b : BitVec 32) : zs n (a ^^^ b) = zs n a ^^^ zs n b := by
 induction n generalizing a b with
 | zero => rfl
 | succ n ih => simp only [zs]; rw [z_xor, ih]
theorem zs_zero (n : Nat) : zs n 0 = 0 := by
 induction n with
 | zero => rfl
 | succ n ih => simp only [zs]; rw [z_zero, ih]
theorem zs_add (m n : Nat) (r : BitVec 32) : zs (m + n) r = zs n (zs m r) := by
 induction m generalizing r with
 | zero => simp [zs]
 | succ m ih => rw [Nat.succ_add]; simp only [zs]; exact ih (z r)
theorem zs_eq_zero (n : Nat) {a : BitVec 32} (h : zs n a = 0) : a = 0 := by
 induction n generalizing a with
 | zero => exact h
 | succ n ih => exact z_eq_zero (ih h)
theorem zs_inj (n : Nat) {a b : BitVec 32} (h : zs n a = zs n b) : a = b := by
 have : zs n (a ^^^ b) = 0 := by rw [zs_xor, h, BitVec.xor_self]; rfl
 have := zs_eq_zero n this
 exact BitVec.xor_eq_zero_iff.mp this
def step (r : BitVec 32) (c : UInt8) : BitVec 32 := zs 8 (r ^^^ c.toBitVec.setWidth 32)
theorem step_xor (r s : BitVec 32) (c d : UInt8) : step (r ^^^ s) (c ^^^ d) = step r c ^^^ step s d := by
 unfold step
 rw [← zs_xor]
 congr 1
 rw [UInt8.toBitVec_xor, BitVec.setWidth_xor]
 ext i
 simp
 cases r[i] <;> cases s[i] <;> simp
def fold (r : BitVec 32) (l : List UInt8) : BitVec 32 := l.foldl step r
theorem fold_append (r : BitVec 32) (a b : List UInt8) : fold r (a ++ b) = fold (fold r a) b := by simp [fold, List.foldl_append]
theorem fold_xor (r s : BitVec 32) (a b : List UInt8) (h : a.length = b.length) : fold (r ^^^ s) (List.zipWith (· ^^^ ·) a b) = fold r a ^^^ fold s b := by
 induction a generalizing b r s with
 | nil =>
  cases b with
  | nil => rfl
  | cons => simp at h
 | cons c a ih =>
  cases b with
  | nil => simp at h
  | cons d b =>
   simp only [List.zipWith_cons_cons]
   show fold (step (r ^^^ s) (c ^^^ d)) _ = fold (step r c) a ^^^ fold (step s d) b
   rw [step_xor]
   exact ih _ _ _ (by simpa using h)
def sum (s : BitVec 32) (l : List UInt8) : BitVec 32 := ~~~ (fold (~~~ s) l)
theorem sum_append (s : BitVec 32) (a b : List UInt8) : sum s (a ++ b) = sum (sum s a) b := by
 unfold sum; rw [fold_append, BitVec.not_not]
theorem z_shl (i : Nat) (hi : i + 1 < 32) : z (1#32 <<< (i + 1)) = 1#32 <<< i := by
 have e : (1#32 <<< (i + 1)).getLsbD 0 = false := by simp
 unfold z
 rw [e]
 simp only [Bool.false_eq_true, if_false]
 apply BitVec.eq_of_toNat_eq
 have h1 : 2 ^ (i + 1) < 2 ^ 32 := Nat.pow_lt_pow_right (by omega) hi
 have h0 : 2 ^ i < 2 ^ 32 := Nat.pow_lt_pow_right (by omega) (by omega)
 simp only [BitVec.toNat_ushiftRight, BitVec.toNat_shiftLeft, BitVec.toNat_ofNat, Nat.shiftLeft_eq, Nat.shiftRight_eq_div_pow]
 rw [show 1 % 2 ^ 32 = 1 from rfl, Nat.one_mul, Nat.one_mul, Nat.mod_eq_of_lt h1, Nat.mod_eq_of_lt h0, Nat.pow_succ]
 omega
theorem zs_shl (i : Nat) (hi : i < 32) : zs i (1#32 <<< i) = 1#32 := by
 induction i with
 | zero => simp [zs]
 | succ i ih => simp only [zs]; rw [z_shl i hi]; exact ih (by omega)
theorem zs_shl_at (n i : Nat) (hi : i < 32) (h : i ≤ n) : zs n (1#32 <<< i) = zs (n - i) 1#32 := by
 obtain ⟨m, rfl⟩ : ∃ m, n = i + m := ⟨n - i, by omega⟩
 rw [zs_add, zs_shl i hi]; congr 1; omega
def zeros (n : Nat) : List UInt8 := List.replicate n 0
theorem fold_zeros (r : BitVec 32) (n : Nat) : fold r (zeros n) = zs (8 * n) r := by
 induction n generalizing r with
 | zero => rfl
 | succ n ih =>
  show fold (step r 0) (zeros n) = _
  rw [ih, Nat.mul_succ, Nat.add_comm, zs_add]
  congr 1
  unfold step
  simp
def bit8 (s : Nat) : UInt8 := UInt8.ofNat (2 ^ s)
theorem bit8_word (s : Nat) (hs : s < 8) : (bit8 s).toBitVec.setWidth 32 = 1#32 <<< s := by
 match s, hs with
 | 0, _ | 1, _ | 2, _ | 3, _ | 4, _ | 5, _ | 6, _ | 7, _ => rfl
theorem fold_flip (r : BitVec 32) (l : List UInt8) (q s : Nat) (hq : q < l.length) (hs : s < 8) :
  fold r (l.set q (l.getD q 0 ^^^ bit8 s)) = fold r l ^^^ zs (8 * l.length - (8 * q + s)) 1#32 := by
 induction l generalizing q r with
 | nil => simp at hq
 | cons c l ih =>
  cases q with
  | zero =>
   show fold (step r (c ^^^ bit8 s)) l = fold (step r c) l ^^^ _
   have e : step r (c ^^^ bit8 s) = step r c ^^^ step 0 (bit8 s) := by rw [← step_xor]; simp
   rw [e]
   have h := fold_xor (step r c) (step 0 (bit8 s)) l (zeros l.length) (by simp [zeros])
   have hz : List.zipWith (· ^^^ ·) l (zeros l.length) = l := by
    apply List.ext_getElem
    ·simp [zeros]
    ·intro i h1 h2; simp [zeros]
   rw [hz] at h
   rw [h, fold_zeros]
   congr 1
   unfold step
   rw [show (0 : BitVec 32) ^^^ (bit8 s).toBitVec.setWidth 32 = (bit8 s).toBitVec.setWidth 32 from BitVec.zero_xor, bit8_word s hs, zs_shl_at 8 s (by omega) (by omega), ← zs_add]
   congr 1
   simp only [List.length_cons]
   omega
  | succ q =>
   show fold (step r c) (l.set q (l.getD q 0 ^^^ bit8 s)) = fold (step r c) l ^^^ _
   rw [ih (step r c) q (by simpa using hq)]
   congr 2
   simp only [List.length_cons]
   omega
def low (b : BitVec 32) (i : Nat) : BitVec 32 := BitVec.ofNat 32 (b.toNat % 2 ^ i)
theorem low_zero (b : BitVec 32) : low b 0 = 0 := by simp [low, Nat.mod_one]
theorem low_all (b : BitVec 32) : low b 32 = b := by
 apply BitVec.eq_of_toNat_eq
 have := b.isLt
 simp only [low, BitVec.toNat_ofNat]
 omega
theorem low_getLsbD (b : BitVec 32) (i j : Nat) (hj : j < 32) : (low b i).getLsbD j = (decide (j < i) && b.getLsbD j) := by
 unfold low
 rw [BitVec.getLsbD_ofNat]
 simp only [hj, decide_true, Bool.true_and, Nat.testBit_mod_two_pow]
 rfl
theorem low_succ_one (b : BitVec 32) (i : Nat) (hi : i < 32) (h : b.getLsbD i = true) : low b (i + 1) = low b i ^^^ 1#32 <<< i := by
 apply BitVec.eq_of_getLsbD_eq
 intro j hj
 rw [BitVec.getLsbD_xor, low_getLsbD _ _ _ hj, low_getLsbD _ _ _ hj, BitVec.getLsbD_shiftLeft, BitVec.getLsbD_one]
 by_cases e : j = i
 ·subst e; simp [hj, h]
 ·by_cases l : j < i
  ·have : ¬ (j - i = 0 ∧ i ≤ j) := by omega
   have a : j < i + 1 := by omega
   simp [hj, l, a]
  ·have a : ¬ j < i + 1 := by omega
   have c : ¬ (j - i = 0) := by omega
   simp [hj, l, a, c]
theorem low_succ_none (b : BitVec 32) (i : Nat) (h : b.getLsbD i = false) : low b (i + 1) = low b i := by
 apply BitVec.eq_of_getLsbD_eq
 intro j hj
 rw [low_getLsbD _ _ _ hj, low_getLsbD _ _ _ hj]
 by_cases e : j = i
 ·subst e; simp [h]
 ·by_cases l : j < i
  ·have a : j < i + 1 := by omega
   simp [l, a]
  ·have a : ¬ j < i + 1 := by omega
   simp [l, a]
theorem z_double (x : BitVec 32) (h : x.toNat < 2 ^ 31) : z (x <<< 1) = x := by
 have e : (x <<< 1).getLsbD 0 = false := by simp
 unfold z
 rw [e]
 simp only [Bool.false_eq_true, if_false]
 apply BitVec.eq_of_toNat_eq
 simp only [BitVec.toNat_ushiftRight, BitVec.toNat_shiftLeft, Nat.shiftLeft_eq, Nat.shiftRight_eq_div_pow]
 omega
theorem zs_double (n : Nat) (x : BitVec 32) (hn : n ≤ 32) (h : x.toNat < 2 ^ (32 - n)) : zs n (x <<< n) = x := by
 induction n generalizing x with
 | zero => simp [zs]
 | succ n ih =>
  simp only [zs]
  have e : x <<< (n + 1) = (x <<< n) <<< 1 := by rw [BitVec.shiftLeft_add]
  have hp : 2 ^ (32 - (n + 1)) * 2 ^ (n + 1) = 2 ^ 32 := by rw [← Nat.pow_add]; congr 1; omega
  have hx : x.toNat * 2 ^ (n + 1) < 2 ^ 32 := by rw [← hp]; exact Nat.mul_lt_mul_of_pos_right h (Nat.pow_pos (by omega))
  rw [e, z_double]
  ·exact ih x (by omega) (Nat.lt_of_lt_of_le h (Nat.pow_le_pow_right (by omega) (by omega)))
  ·rw [Nat.pow_succ, ← Nat.mul_assoc] at hx
   rw [BitVec.toNat_shiftLeft, Nat.shiftLeft_eq]
   exact Nat.lt_of_le_of_lt (Nat.mod_le _ _) (by omega)
theorem zs_byte (n : Nat) (c : UInt8) (hn : n ≤ 24) : zs n (c.toBitVec.setWidth 32 <<< n) = c.toBitVec.setWidth 32 := by
 apply zs_double n _ (by omega)
 have h : c.toNat < 2 ^ 8 := c.toNat_lt
 have h2 : (2 : Nat) ^ 8 ≤ 2 ^ (32 - n) := Nat.pow_le_pow_right (by omega) (by omega)
 simp only [BitVec.toNat_setWidth, UInt8.toNat_toBitVec]
 exact Nat.lt_of_le_of_lt (Nat.mod_le _ _) (by omega)
theorem fold_four (r : BitVec 32) (a b c d : UInt8) : fold r [a, b, c, d] = zs 32 (r ^^^ (a.toBitVec.setWidth 32 ^^^ (b.toBitVec.setWidth 32 <<< 8) ^^^ (c.toBitVec.setWidth 32 <<< 16) ^^^ (d.toBitVec.setWidth 32 <<< 24))) := by
 show step (step (step (step r a) b) c) d = _
 unfold step
 have hb := zs_byte 8 b (by omega)
 have hc := zs_byte 16 c (by omega)
 have hd := zs_byte 24 d (by omega)
 have e16 : ∀ x, zs 16 x = zs 8 (zs 8 x) := fun x => zs_add 8 8 x
 have e24 : ∀ x, zs 24 x = zs 8 (zs 8 (zs 8 x)) := fun x => by rw [show (24 : Nat) = 8 + 16 from rfl, zs_add 8 16, e16]
 have e32 : ∀ x, zs 32 x = zs 8 (zs 8 (zs 8 (zs 8 x))) := fun x => by rw [← e24, ← zs_add]
 rw [e16] at hc
 rw [e24] at hd
 rw [e32]
 simp only [zs_xor]
 rw [hb, hc, hd]
 simp only [BitVec.xor_assoc]
theorem word_four (u : BitVec 32) : u = ((UInt8.ofNat (u.toNat % 256)).toBitVec.setWidth 32 ^^^ ((UInt8.ofNat (u.toNat / 256 % 256)).toBitVec.setWidth 32 <<< 8) ^^^ ((UInt8.ofNat (u.toNat / 65536 % 256)).toBitVec.setWidth 32 <<< 16) ^^^ ((UInt8.ofNat (u.toNat / 16777216)).toBitVec.setWidth 32 <<< 24)) := by
 have f : ∀ n k, n = u.toNat / 2 ^ k % 256 → (UInt8.ofNat n).toBitVec.setWidth 32 = ((u >>> k).setWidth 8).setWidth 32 := by
  intro n k h
  subst h
  apply BitVec.eq_of_toNat_eq
  simp [BitVec.toNat_setWidth, BitVec.toNat_ushiftRight, Nat.shiftRight_eq_div_pow]
 rw [f (u.toNat % 256) 0 (by simp), f _ 8 rfl, f _ 16 rfl, f (u.toNat / 16777216) 24 (by have := u.isLt; omega)]
 apply BitVec.eq_of_getLsbD_eq
 intro i hi
 simp only [BitVec.getLsbD_xor, BitVec.getLsbD_setWidth, BitVec.getLsbD_shiftLeft, BitVec.getLsbD_ushiftRight]
 by_cases h8 : i < 8
 ·have h1 : i < 16 := by omega
  have h2 : i < 24 := by omega
  simp [hi, h8, h1, h2]
 ·by_cases h16 : i < 16
  ·have h2 : i < 24 := by omega
   have e : 8 + (i - 8) = i := by omega
   have e1 : i - 8 < 8 := by omega
   have e2 : i - 8 < 32 := by omega
   simp [hi, h8, h16, h2, e, e1, e2]
  ·by_cases h24 : i < 24
   ·have e : 16 + (i - 16) = i := by omega
    have e1 : i - 16 < 8 := by omega
    have e2 : i - 16 < 32 := by omega
    have e3 : ¬ i - 8 < 8 := by omega
    simp [hi, h8, h16, h24, e, e1, e2, e3]
   ·have e : 24 + (i - 24) = i := by omega
    have e1 : i - 24 < 8 := by omega
    have e2 : i - 24 < 32 := by omega
    have e3 : ¬ i - 8 < 8 := by omega
    have e4 : ¬ i - 16 < 8 := by omega
    simp [hi, h8, h16, h24, e, e1, e2, e3, e4]
def le4 (u : BitVec 32) : List UInt8 := [UInt8.ofNat (u.toNat % 256), UInt8.ofNat (u.toNat / 256 % 256), UInt8.ofNat (u.toNat / 65536 % 256), UInt8.ofNat (u.toNat / 16777216)]
theorem fold_le4 (r u : BitVec 32) : fold r (le4 u) = zs 32 (r ^^^ u) := by
 unfold le4
 rw [fold_four, ← word_four]
def residue : BitVec 32 := zs 32 (BitVec.allOnes 32)
theorem fold_seal (r : BitVec 32) (l : List UInt8) : fold r (l ++ le4 (~~~ (fold r l))) = residue := by
 rw [fold_append, fold_le4]
 unfold residue
 congr 1
 apply BitVec.eq_of_getLsbD_eq
 intro i hi
 rw [BitVec.getLsbD_xor, BitVec.getLsbD_not, BitVec.getLsbD_allOnes]
 cases (fold r l).getLsbD i <;> simp [hi]
theorem seal_iff (r u : BitVec 32) (l : List UInt8) : fold r (l ++ le4 u) = residue ↔ u = ~~~ (fold r l) := by
 constructor
 ·intro h
  rw [← fold_seal r l, fold_append, fold_append, fold_le4, fold_le4] at h
  have := zs_inj 32 h
  have := congrArg (fun x => fold r l ^^^ x) this
  simpa [← BitVec.xor_assoc] using this
 ·rintro rfl; exact fold_seal r l
def hstep (h : BitVec 32) (c : UInt8) : BitVec 32 := (h ^^^ c.toBitVec.setWidth 32) * 16777619#32
def hmix (h : BitVec 32) : BitVec 32 := (h ^^^ h >>> 15) * 739982445#32
def hash (seed : BitVec 32) (l : List UInt8) : BitVec 32 := hmix (hmix (hmix (l.foldl hstep (seed ^^^ 2166136261#32))))
end PCrc
-- PBloom
namespace PBloom
def bitOf (b : List UInt8) (i : Nat) : Bool := (b.getD (i / 8) 0).toNat.testBit (i % 8)
def setBit (b : List UInt8) (i : Nat) : List UInt8 := b.set (i / 8) (b.getD (i / 8) 0 ||| UInt8.ofNat (2 ^ (i % 8)))
theorem setBit_length (b : List UInt8) (i : Nat) : (setBit b i).length = b.length := by simp [setBit]
theorem two_pow_small (i : Nat) : 2 ^ (i % 8) < 256 := by
 have : i % 8 < 8 := by omega
 exact Nat.pow_lt_pow_right (n := 8) (by omega) this
theorem bitOf_setBit (b : List UInt8) (i j : Nat) (hi : i / 8 < b.length) : bitOf (setBit b i) j = (decide (j = i) || bitOf b j) := by
 unfold bitOf setBit
 simp only [List.getD_eq_getElem?_getD, List.getElem?_set]
 by_cases h : i / 8 = j / 8
 ·rw [if_pos h, if_pos hi]
  rw [h]
  simp only [Option.getD_some, UInt8.toNat_or, Nat.testBit_or]
  have e : (UInt8.ofNat (2 ^ (i % 8))).toNat = 2 ^ (i % 8) := by
   have := two_pow_small i
   simp; omega
  rw [e, Nat.testBit_two_pow, Bool.or_comm]
  congr 1
  rw [Bool.eq_iff_iff]
  simp only [decide_eq_true_eq]
  omega
 ·rw [if_neg h]
  have : ¬ j = i := by rintro rfl; exact h rfl
  simp [this]
def setAll (b : List UInt8) (l : List Nat) : List UInt8 := l.foldl setBit b
theorem setAll_length (b : List UInt8) (l : List Nat) : (setAll b l).length = b.length := by
 induction l generalizing b with
 | nil => rfl
 | cons i l ih => exact (ih (setBit b i)).trans (setBit_length b i)
theorem bitOf_setAll (b : List UInt8) (l : List Nat) (j : Nat) (h : ∀ i ∈ l, i / 8 < b.length) : bitOf (setAll b l) j = (decide (j ∈ l) || bitOf b j) := by
 induction l generalizing b with
 | nil => simp [setAll]
 | cons i l ih =>
  show bitOf (setAll (setBit b i) l) j = _
  rw [ih (setBit b i) (fun k hk => by rw [setBit_length]; exact h k (List.mem_cons_of_mem _ hk)), bitOf_setBit b i j (h i List.mem_cons_self)]
  rw [← Bool.or_assoc]
  congr 1
  rw [Bool.eq_iff_iff]
  simp only [Bool.or_eq_true, decide_eq_true_eq, List.mem_cons]
  exact Or.comm
theorem setAll_append (b : List UInt8) (l m : List Nat) : setAll b (l ++ m) = setAll (setAll b l) m := by simp [setAll, List.foldl_append]
def zeros (n : Nat) : List UInt8 := List.replicate n 0
theorem bitOf_zeros (n i : Nat) : bitOf (zeros n) i = false := by
 unfold bitOf zeros
 simp only [List.getD_eq_getElem?_getD, List.getElem?_replicate]
 split <;> simp
end PBloom
