/- The reference's hash, as printed, is the plain one. -/
import Derived.Test.YtdgfilbfkoeidaaRWord
import Derived.Test.YtdgfilbfkoeidaaPrint1
namespace Go.Proofs.Ytdgfilbfkoeidaa.Print
open Go.RowKit PLink Txt Go.Proofs.YtdgfilbfkoeidaaW.PrintWords
theorem ref_h1_round (x : BitVec 32) (j : Int) (h0 : 0 ≤ j) (h3 : j < 3) (out : Int) (h : Ev (fun k => freshetref01_Hash.l1 k (I (PCrc.hmix x)) (j + 1)) out) : Ev (fun k => freshetref01_Hash.l1 k (I x) j) out := by
  refine Ev.step (fun k => ?_) h
  simp only [freshetref01_Hash.l1]
  rw [if_pos (by omega), wrap_id (by omega) (by omega), tdiv_word x 32768 (by omega), shr15_word, xor_word, mix_word]
theorem ref_h1_end (x : BitVec 32) : Ev (fun k => freshetref01_Hash.l1 k (I x) 3) (I x) := by
  refine Ev.step (f := fun _ => some (I x)) (fun k => ?_) (Ev.now _)
  simp only [freshetref01_Hash.l1]
  rw [if_neg (by omega)]
theorem ref_h1 (x : BitVec 32) : Ev (fun k => freshetref01_Hash.l1 k (I x) 0) (I (PCrc.hmix (PCrc.hmix (PCrc.hmix x)))) :=
  ref_h1_round x 0 (by omega) (by omega) _ (ref_h1_round _ 1 (by omega) (by omega) _ (ref_h1_round _ 2 (by omega) (by omega) _ (ref_h1_end _)))
theorem ref_h0 (s : ByteArray) (hs : s.size ≤ 9223372036854775806) (d : Nat) : ∀ (x : BitVec 32) (i : Nat), i + d = s.size → Ev (fun k => freshetref01_Hash.l0 k s (I x) i) (I (PCrc.hmix (PCrc.hmix (PCrc.hmix (((L s).drop i).foldl PCrc.hstep x))))) := by
  induction d with
  | zero =>
    intro x i hi
    have h := ref_h1 x
    rw [List.drop_of_length_le (by rw [L_length]; omega)]
    refine Ev.step (fun k => ?_) h
    simp only [freshetref01_Hash.l0]
    rw [if_neg (by omega)]
  | succ d ih =>
    intro x i hi
    have hlt : i < s.size := by omega
    have h := ih (PCrc.hstep x ((L s)[i]'(by rw [L_length]; exact hlt))) (i + 1) (by omega)
    rw [drop_at s hlt]
    refine Ev.step (fun k => ?_) h
    simp only [freshetref01_Hash.l0]
    rw [if_pos (by omega), if_pos (by omega), bt_get s (by omega) (by omega), wrap_id (by omega) (by omega)]
    simp only [Int.toNat_natCast]
    rw [byte_id, xor_byte, hstep_word, show ((i : Int) + 1) = ((i + 1 : Nat) : Int) by omega]
theorem ref_hash (r : BitVec 32) (s : ByteArray) (hs : s.size ≤ 9223372036854775806) : Ev (fun k => freshetref01_Hash.f k (I r) s) (I (PCrc.hash r (L s))) := by
  refine Ev.congr (fun k => ?_) (ref_h0 s hs s.size (r ^^^ 2166136261#32) 0 (by omega))
  unfold freshetref01_Hash.f
  rw [seed_word]
  rfl
end Go.Proofs.Ytdgfilbfkoeidaa.Print
