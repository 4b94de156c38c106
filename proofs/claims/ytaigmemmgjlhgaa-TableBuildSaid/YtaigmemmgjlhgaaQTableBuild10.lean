/- Texts of this claim, joined by a program of this session (wip/pack.py): PCrc, PBloom. -/

-- PCrc
namespace PCrc
def poly : BitVec 32 := 0x82F63B78#32
def z (r : BitVec 32) : BitVec 32 := if r.getLsbD 0 then (r >>> 1) ^^^ poly else r >>> 1
def zs : Nat → BitVec 32 → BitVec 32
 | 0, r => r
 | n + 1, r => zs n (z r)
theorem zs_add (m n : Nat) (r : BitVec 32) : zs (m + n) r = zs n (zs m r) := by
 induction m generalizing r with
 | zero => simp [zs]
 | succ m ih => rw [Nat.succ_add]; simp only [zs]; exact ih (z r)
def step (r : BitVec 32) (c : UInt8) : BitVec 32 := zs 8 (r ^^^ c.toBitVec.setWidth 32)
def fold (r : BitVec 32) (l : List UInt8) : BitVec 32 := l.foldl step r
theorem fold_append (r : BitVec 32) (a b : List UInt8) : fold r (a ++ b) = fold (fold r a) b := by simp [fold, List.foldl_append]
def sum (s : BitVec 32) (l : List UInt8) : BitVec 32 := ~~~ (fold (~~~ s) l)
theorem sum_append (s : BitVec 32) (a b : List UInt8) : sum s (a ++ b) = sum (sum s a) b := by
 unfold sum; rw [fold_append, BitVec.not_not]
def zeros (n : Nat) : List UInt8 := List.replicate n 0
def low (b : BitVec 32) (i : Nat) : BitVec 32 := BitVec.ofNat 32 (b.toNat % 2 ^ i)
def le4 (u : BitVec 32) : List UInt8 := [UInt8.ofNat (u.toNat % 256), UInt8.ofNat (u.toNat / 256 % 256), UInt8.ofNat (u.toNat / 65536 % 256), UInt8.ofNat (u.toNat / 16777216)]
def hstep (h : BitVec 32) (c : UInt8) : BitVec 32 := (h ^^^ c.toBitVec.setWidth 32) * 16777619#32
def hmix (h : BitVec 32) : BitVec 32 := (h ^^^ h >>> 15) * 739982445#32
def hash (seed : BitVec 32) (l : List UInt8) : BitVec 32 := hmix (hmix (hmix (l.foldl hstep (seed ^^^ 2166136261#32))))
end PCrc
-- PBloom
namespace PBloom
def bitOf (b : List UInt8) (i : Nat) : Bool := (b.getD (i / 8) 0).toNat.testBit (i % 8)
def setBit (b : List UInt8) (i : Nat) : List UInt8 := b.set (i / 8) (b.getD (i / 8) 0 ||| UInt8.ofNat (2 ^ (i % 8)))
theorem setBit_length (b : List UInt8) (i : Nat) : (setBit b i).length = b.length := by simp [setBit]
theorem two_pow_small (i : Nat) : 2 ^ (i % 8) < 256 := by
 have : i % 8 < 8 := by omega
 exact Nat.pow_lt_pow_right (n := 8) (by omega) this
theorem bitOf_setBit (b : List UInt8) (i j : Nat) (hi : i / 8 < b.length) : bitOf (setBit b i) j = (decide (j = i) || bitOf b j) := by
 unfold bitOf setBit
 simp only [List.getD_eq_getElem?_getD, List.getElem?_set]
 by_cases h : i / 8 = j / 8
 ·rw [if_pos h, if_pos hi]
  rw [h]
  simp only [Option.getD_some, UInt8.toNat_or, Nat.testBit_or]
  have e : (UInt8.ofNat (2 ^ (i % 8))).toNat = 2 ^ (i % 8) := by
   have := two_pow_small i
   simp; omega
  rw [e, Nat.testBit_two_pow, Bool.or_comm]
  congr 1
  rw [Bool.eq_iff_iff]
  simp only [decide_eq_true_eq]
  omega
 ·rw [if_neg h]
  have : ¬ j = i := by rintro rfl; exact h rfl
  simp [this]
def setAll (b : List UInt8) (l : List Nat) : List UInt8 := l.foldl setBit b
theorem setAll_length (b : List UInt8) (l : List Nat) : (setAll b l).length = b.length := by
 induction l generalizing b with
 | nil => rfl
 | cons i l ih => exact (ih (setBit b i)).trans (setBit_length b i)
theorem bitOf_setAll (b : List UInt8) (l : List Nat) (j : Nat) (h : ∀ i ∈ l, i / 8 < b.length) : bitOf (setAll b l) j = (decide (j ∈ l) || bitOf b j) := by
 induction l generalizing b with
 | nil => simp [setAll]
 | cons i l ih =>
  show bitOf (setAll (setBit b i) l) j = _
  rw [ih (setBit b i) (fun k hk => by rw [setBit_length]; exact h k (List.mem_cons_of_mem _ hk)), bitOf_setBit b i j (h i List.mem_cons_self)]
  rw [← Bool.or_assoc]
  congr 1
  rw [Bool.eq_iff_iff]
  simp only [Bool.or_eq_true, decide_eq_true_eq, List.mem_cons]
  exact Or.comm
theorem setAll_append (b : List UInt8) (l m : List Nat) : setAll b (l ++ m) = setAll (setAll b l) m := by simp [setAll, List.foldl_append]
def zeros (n : Nat) : List UInt8 := List.replicate n 0
theorem bitOf_zeros (n i : Nat) : bitOf (zeros n) i = false := by
 unfold bitOf zeros
 simp only [List.getD_eq_getElem?_getD, List.getElem?_replicate]
 split <;> simp
end PBloom
