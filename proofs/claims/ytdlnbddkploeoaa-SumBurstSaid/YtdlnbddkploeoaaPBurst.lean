/- What a burst of bits does to a sum. -/
import Derived.Test.YtdlnbddkploeoaaBits
namespace Go.Proofs.Ytdlnbddkploeoaa.Bits
open Txt
theorem bit_of (b : BitVec 32) (i : Nat) : ((b.toNat : Int) / 2 ^ i % 2 = 1) ↔ b.getLsbD i = true := by
  rw [← BitVec.testBit_toNat, Nat.testBit_eq_decide_div_mod_eq, decide_eq_true_eq]
  have e : ((b.toNat : Int) / 2 ^ i % 2) = ((b.toNat / 2 ^ i % 2 : Nat) : Int) := by push_cast; rfl
  rw [e]
  omega
theorem fold_flips (b : BitVec 32) (r : BitVec 32) (l : List UInt8) (hd K : Nat) (h : 8 * hd + K + 32 ≤ 8 * l.length) : ∀ i, i ≤ 32 →
    PCrc.fold r (flips (b.toNat : Int) hd K l i) = PCrc.fold r l ^^^ PCrc.zs (8 * l.length - (8 * hd + K)) (PCrc.low b i)
  | 0, _ => by rw [flips, PCrc.low_zero, PCrc.zs_zero]; exact BitVec.xor_zero.symm
  | i + 1, hi => by
    have ih := fold_flips b r l hd K h i (by omega)
    rw [flips]
    by_cases c : b.getLsbD i = true
    · rw [if_pos ((bit_of b i).2 c)]
      have hs : spot hd K i < (flips (b.toNat : Int) hd K l i).length := by rw [flips_length]; unfold spot; omega
      rw [PCrc.fold_flip r _ _ _ hs (ix_lt K i), ih, PCrc.low_succ_one b i (by omega) c, PCrc.zs_xor, PCrc.zs_shl_at _ i (by omega) (by omega), flips_length, BitVec.xor_assoc]
      congr 3
      unfold spot bitNo; omega
    · rw [if_neg (fun e => c ((bit_of b i).1 e)), ih, PCrc.low_succ_none b i (by simpa using c)]
theorem fold_burst (b : BitVec 32) (hb : b ≠ 0) (r : BitVec 32) (l : List UInt8) (hd K : Nat) (h : 8 * hd + K + 32 ≤ 8 * l.length) :
    PCrc.fold r (flips (b.toNat : Int) hd K l 32) ≠ PCrc.fold r l := by
  intro e
  rw [fold_flips b r l hd K h 32 (by omega), PCrc.low_all] at e
  have e2 : PCrc.zs (8 * l.length - (8 * hd + K)) b = 0 := by
    have := congrArg (PCrc.fold r l ^^^ ·) e
    simpa [← BitVec.xor_assoc] using this
  exact hb (PCrc.zs_eq_zero _ e2)
theorem flips_take (n : Int) (hd K : Nat) (l : List UInt8) : ∀ i, (flips n hd K l i).take hd = l.take hd
  | 0 => rfl
  | i + 1 => by
    rw [flips]
    split
    · rw [List.take_set_of_le (by unfold spot; omega)]; exact flips_take n hd K l i
    · exact flips_take n hd K l i
end Go.Proofs.Ytdlnbddkploeoaa.Bits
