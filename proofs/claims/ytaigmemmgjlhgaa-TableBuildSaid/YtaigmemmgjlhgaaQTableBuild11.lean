/- Texts of this claim, joined by a program of this session (wip/pack.py): PLink. -/
import Derived.Laws.BitsAllLaws
import Derived.Laws.BitsLemmas
import Derived.Test.YtaigmemmgjlhgaaQTableBuild10
-- PLink
namespace PLink
open Go
def I (r : BitVec 32) : Int := (r.toNat : Int)
theorem I_lo (r : BitVec 32) : 0 ≤ I r := Int.natCast_nonneg _
theorem I_hi (r : BitVec 32) : I r ≤ 4294967295 := by have := r.isLt; unfold I; omega
theorem I_of {x : Int} (h0 : 0 ≤ x) (h1 : x ≤ 4294967295) : I (BitVec.ofInt 32 x) = x := by
 unfold I
 rw [BitVec.toNat_ofInt]
 omega
theorem xor_word (a b : BitVec 32) : bits .xor .u32 (I a) (I b) = I (a ^^^ b) := by
 unfold I
 rw [u32_xor_nat _ _ a.isLt b.isLt, BitVec.toNat_xor]
theorem xor_byte (a : BitVec 32) (c : UInt8) : bits .xor .u32 (I a) (c.toNat : Int) = I (a ^^^ c.toBitVec.setWidth 32) := by
 have e : (c.toNat : Int) = I (c.toBitVec.setWidth 32) := by
  unfold I
  have := c.toNat_lt
  simp only [BitVec.toNat_setWidth, UInt8.toNat_toBitVec]
  omega
 rw [e, xor_word]
theorem xor_lit (a : BitVec 32) (n : Nat) (h : n < 4294967296) : bits .xor .u32 (I a) (n : Int) = I (a ^^^ BitVec.ofNat 32 n) := by
 have e : (n : Int) = I (BitVec.ofNat 32 n) := by
  unfold I
  rw [BitVec.toNat_ofNat]; omega
 rw [e, xor_word]
theorem shr_word (a : BitVec 32) (k : Nat) : I a / 2 ^ k = I (a >>> k) := by
 unfold I
 rw [BitVec.toNat_ushiftRight, Nat.shiftRight_eq_div_pow]
 simp
theorem mul_word (a : BitVec 32) (n : Nat) : (I a * (n : Int)) % 4294967296 = I (a * BitVec.ofNat 32 n) := by
 unfold I
 rw [BitVec.toNat_mul, BitVec.toNat_ofNat]
 have : (a.toNat * (n % 2 ^ 32)) % 2 ^ 32 = (a.toNat * n) % 2 ^ 32 := by rw [Nat.mul_mod, Nat.mod_mod, ← Nat.mul_mod]
 rw [this]
 simp
theorem odd_word (a : BitVec 32) : I a % 2 = 1 ↔ a.getLsbD 0 = true := by
 unfold I
 rw [BitVec.getLsbD, Nat.testBit_zero, decide_eq_true_iff]
 omega
theorem shr15_word (x : BitVec 32) : I x / (32768 : Int) = I (x >>> 15) := by
 have e15 := shr_word x 15
 rw [show (2 : Int) ^ 15 = 32768 from rfl] at e15
 exact e15
theorem mix_word (x : BitVec 32) : (I (x ^^^ x >>> 15) * 739982445) % 4294967296 = I (PCrc.hmix x) := mul_word _ 739982445
theorem hstep_word (x : BitVec 32) (c : UInt8) : (I (x ^^^ c.toBitVec.setWidth 32) * 16777619) % 4294967296 = I (PCrc.hstep x c) := mul_word _ 16777619
theorem seed_word (x : BitVec 32) : bits .xor .u32 (I x) 2166136261 = I (x ^^^ 2166136261#32) := xor_lit x 2166136261 (by omega)
end PLink
