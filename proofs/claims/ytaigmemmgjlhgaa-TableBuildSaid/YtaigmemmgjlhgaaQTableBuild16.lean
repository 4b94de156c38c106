/- Texts of this claim, joined by a program of this session (wip/pack.py): RWord. -/
import Derived.Test.YtaigmemmgjlhgaaQTableBuild3
import Derived.Test.YtaigmemmgjlhgaaQTableBuild11
-- RWord
namespace Go.Proofs.Ytaigmemmgjlhgaa.Print
open Go.RowKit PLink Txt Go.Proofs.YtaigmemmgjlhgaaW.PrintWords
theorem byte_id (c : UInt8) : (c.toNat : Int) % 4294967296 = c.toNat := by have := c.toNat_lt; omega
theorem ones_word : (4294967295 : Int) = I (BitVec.allOnes 32) := rfl
theorem not_xor (r : BitVec 32) : bits .xor .u32 (I r) 4294967295 = I (~~~ r) := by
 rw [ones_word, xor_word, BitVec.xor_allOnes]
theorem tdiv_word (r : BitVec 32) (k : Int) (h : 0 < k) : (Int.tdiv (I r) k) % 4294967296 = I r / k := by
 have h0 := I_lo r
 have h1 := I_hi r
 rw [Int.tdiv_eq_ediv_of_nonneg h0]
 have a : 0 ≤ I r / k := Int.ediv_nonneg h0 (by omega)
 have b : I r / k ≤ I r := Int.ediv_le_self _ h0
 omega
theorem tmod_word (r : BitVec 32) : Int.tmod (I r) 2 = I r % 2 := Int.tmod_eq_emod_of_nonneg (I_lo r)
theorem z_one {a : BitVec 32} (h : a.getLsbD 0 = true) : bits .xor .u32 (I a / 2) 2197175160 = I (PCrc.z a) := by
 have e := shr_word a 1
 rw [show (2 : Int) ^ 1 = 2 from rfl] at e
 unfold PCrc.z
 rw [h, if_pos rfl, e]
 exact xor_lit _ 2197175160 (by omega)
theorem z_none {a : BitVec 32} (h : a.getLsbD 0 = false) : I a / 2 = I (PCrc.z a) := by
 have e := shr_word a 1
 rw [show (2 : Int) ^ 1 = 2 from rfl] at e
 unfold PCrc.z
 rw [h, e]
 rfl
theorem drop_at (s : ByteArray) {i : Nat} (h : i < s.size) : (L s).drop i = (L s)[i]'(by rw [q0g]; exact h) :: (L s).drop (i + 1) := List.drop_eq_getElem_cons (by rw [q0g]; exact h)
end Go.Proofs.Ytaigmemmgjlhgaa.Print
