/- The reference's sum, as printed, is the plain one. -/
import Derived.Test.YtfibccfbcehheaaPLink
import Derived.Test.YtfibccfbcehheaaText
import Derived.Test.YtfibccfbcehheaaGSum
import Derived.Test.YtfibccfbcehheaaPrint1
import Derived.Test.YtfibccfbcehheaaPrint2
namespace Go.Proofs.Ytfibccfbcehheaa.Print
open Go.RowKit PLink Txt Go.Proofs.YtfibccfbcehheaaW.PrintWords
theorem byte_id (c : UInt8) : (c.toNat : Int) % 4294967296 = c.toNat := by have := c.toNat_lt; omega
theorem ones_word : (4294967295 : Int) = I (BitVec.allOnes 32) := rfl
theorem not_xor (r : BitVec 32) : bits .xor .u32 (I r) 4294967295 = I (~~~ r) := by
  rw [ones_word, xor_word, BitVec.xor_allOnes]
theorem tdiv_word (r : BitVec 32) (k : Int) (h : 0 < k) : (Int.tdiv (I r) k) % 4294967296 = I r / k := by
  have h0 := I_lo r
  have h1 := I_hi r
  rw [Int.tdiv_eq_ediv_of_nonneg h0]
  have a : 0 ≤ I r / k := Int.ediv_nonneg h0 (by omega)
  have b : I r / k ≤ I r := Int.ediv_le_self _ h0
  omega
theorem tmod_word (r : BitVec 32) : Int.tmod (I r) 2 = I r % 2 := Int.tmod_eq_emod_of_nonneg (I_lo r)
theorem z_one {a : BitVec 32} (h : a.getLsbD 0 = true) : bits .xor .u32 (I a / 2) 2197175160 = I (PCrc.z a) := by
  have e := shr_word a 1
  rw [show (2 : Int) ^ 1 = 2 from rfl] at e
  unfold PCrc.z
  rw [h, if_pos rfl, e]
  exact xor_lit _ 2197175160 (by omega)
theorem z_none {a : BitVec 32} (h : a.getLsbD 0 = false) : I a / 2 = I (PCrc.z a) := by
  have e := shr_word a 1
  rw [show (2 : Int) ^ 1 = 2 from rfl] at e
  unfold PCrc.z
  rw [h, e]
  rfl
theorem drop_at (s : ByteArray) {i : Nat} (h : i < s.size) : (L s).drop i = (L s)[i]'(by rw [L_length]; exact h) :: (L s).drop (i + 1) := List.drop_eq_getElem_cons (by rw [L_length]; exact h)
theorem ref_l1 (s : ByteArray) (i : Int) (hi : wrap64 (i + 1) = i + 1) (out : Int) (n : Nat) : ∀ (x : BitVec 32) (j : Int), j + n = 8 → 0 ≤ j → Ev (fun k => freshetref01_More.l0 k s (I (PCrc.zs n x)) (i + 1)) out → Ev (fun k => freshetref01_More.l1 k s (I x) i j) out := by
  induction n with
  | zero =>
    intro x j hj h0 h
    refine Ev.step (fun k => ?_) h
    simp only [freshetref01_More.l1]
    rw [if_neg (by omega), hi]
    rfl
  | succ n ih =>
    intro x j hj h0 h
    refine Ev.step (fun k => ?_) (ih (PCrc.z x) (j + 1) (by omega) (by omega) h)
    simp only [freshetref01_More.l1]
    rw [if_pos (by omega), wrap_id (by omega) (by omega), tdiv_word x 2 (by omega), tmod_word]
    cases hb : x.getLsbD 0 with
    | true => rw [if_pos ((odd_word x).2 hb), z_one hb]
    | false =>
      have : ¬ I x % 2 = 1 := fun e => by rw [(odd_word x).1 e] at hb; cases hb
      rw [if_neg this, z_none hb]
theorem ref_l0 (s : ByteArray) (hs : s.size ≤ 9223372036854775806) (d : Nat) : ∀ (x : BitVec 32) (i : Nat), i + d = s.size → Ev (fun k => freshetref01_More.l0 k s (I x) i) (I (~~~ PCrc.fold x ((L s).drop i))) := by
  induction d with
  | zero =>
    intro x i hi
    refine Ev.step (f := fun _ => some (I (~~~ x))) (fun k => ?_) (by rw [List.drop_of_length_le (by rw [L_length]; omega)]; exact Ev.now _)
    simp only [freshetref01_More.l0]
    rw [if_neg (by omega), not_xor]
  | succ d ih =>
    intro x i hi
    have hlt : i < s.size := by omega
    have h := ih (PCrc.step x ((L s)[i]'(by rw [L_length]; exact hlt))) (i + 1) (by omega)
    have e : PCrc.fold x ((L s).drop i) = PCrc.fold (PCrc.step x ((L s)[i]'(by rw [L_length]; exact hlt))) ((L s).drop (i + 1)) := by rw [drop_at s hlt]; rfl
    rw [e]
    refine Ev.step (fun k => ?_) (ref_l1 s i (wrap_id (by omega) (by omega)) _ 8 (x ^^^ ((L s)[i]'(by rw [L_length]; exact hlt)).toBitVec.setWidth 32) 0 (by omega) (by omega) h)
    simp only [freshetref01_More.l0]
    rw [if_pos (by omega), if_pos (by omega), bt_get s (by omega) (by omega)]
    simp only [Int.toNat_natCast]
    rw [byte_id, xor_byte]
theorem ref_more (r : BitVec 32) (s : ByteArray) (hs : s.size ≤ 9223372036854775806) : Ev (fun k => freshetref01_More.f k (I r) s) (I (PCrc.sum r (L s))) := by
  refine Ev.congr (fun k => ?_) (ref_l0 s hs s.size (~~~ r) 0 (by omega))
  unfold freshetref01_More.f
  rw [not_xor]
  rfl
theorem ref_of (s : ByteArray) (hs : s.size ≤ 9223372036854775806) : Ev (fun k => freshetref01_Of.f k s) (I (PCrc.sum 0 (L s))) := by
  have e : ∀ k, freshetref01_Of.f k s = freshetref01_More.f k (I 0) s := by
    intro k
    unfold freshetref01_Of.f
    show (freshetref01_More.f k (I 0) s).bind _ = _
    cases freshetref01_More.f k (I 0) s <;> rfl
  exact Ev.congr e (ref_more 0 s hs)
theorem of_f (s : ByteArray) (h : s.size ≤ 9223372036854775807) : sum_Of.f s = some (I (PCrc.sum 0 (L s))) := if_pos h
end Go.Proofs.Ytfibccfbcehheaa.Print
