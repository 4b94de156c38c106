/- The reference's sum, as printed, is the plain one. -/
import Derived.Test.YtdlnbddkploeoaaRWord
import Derived.Test.YtdlnbddkploeoaaGSum
import Derived.Test.YtdlnbddkploeoaaPrint1
import Derived.Test.YtdlnbddkploeoaaPrint1
namespace Go.Proofs.Ytdlnbddkploeoaa.Print
open Go.RowKit PLink Txt Go.Proofs.YtdlnbddkploeoaaW.PrintWords
theorem ref_l1 (s : ByteArray) (i : Int) (hi : wrap64 (i + 1) = i + 1) (out : Int) (n : Nat) : ∀ (x : BitVec 32) (j : Int), j + n = 8 → 0 ≤ j → Ev (fun k => freshetref01_More.l0 k s (I (PCrc.zs n x)) (i + 1)) out → Ev (fun k => freshetref01_More.l1 k s (I x) i j) out := by
  induction n with
  | zero =>
    intro x j hj h0 h
    refine Ev.step (fun k => ?_) h
    simp only [freshetref01_More.l1]
    rw [if_neg (by omega), hi]
    rfl
  | succ n ih =>
    intro x j hj h0 h
    refine Ev.step (fun k => ?_) (ih (PCrc.z x) (j + 1) (by omega) (by omega) h)
    simp only [freshetref01_More.l1]
    rw [if_pos (by omega), wrap_id (by omega) (by omega), tdiv_word x 2 (by omega), tmod_word]
    cases hb : x.getLsbD 0 with
    | true => rw [if_pos ((odd_word x).2 hb), z_one hb]
    | false =>
      have : ¬ I x % 2 = 1 := fun e => by rw [(odd_word x).1 e] at hb; cases hb
      rw [if_neg this, z_none hb]
theorem ref_l0 (s : ByteArray) (hs : s.size ≤ 9223372036854775806) (d : Nat) : ∀ (x : BitVec 32) (i : Nat), i + d = s.size → Ev (fun k => freshetref01_More.l0 k s (I x) i) (I (~~~ PCrc.fold x ((L s).drop i))) := by
  induction d with
  | zero =>
    intro x i hi
    refine Ev.step (f := fun _ => some (I (~~~ x))) (fun k => ?_) (by rw [List.drop_of_length_le (by rw [L_length]; omega)]; exact Ev.now _)
    simp only [freshetref01_More.l0]
    rw [if_neg (by omega), not_xor]
  | succ d ih =>
    intro x i hi
    have hlt : i < s.size := by omega
    have h := ih (PCrc.step x ((L s)[i]'(by rw [L_length]; exact hlt))) (i + 1) (by omega)
    have e : PCrc.fold x ((L s).drop i) = PCrc.fold (PCrc.step x ((L s)[i]'(by rw [L_length]; exact hlt))) ((L s).drop (i + 1)) := by rw [drop_at s hlt]; rfl
    rw [e]
    refine Ev.step (fun k => ?_) (ref_l1 s i (wrap_id (by omega) (by omega)) _ 8 (x ^^^ ((L s)[i]'(by rw [L_length]; exact hlt)).toBitVec.setWidth 32) 0 (by omega) (by omega) h)
    simp only [freshetref01_More.l0]
    rw [if_pos (by omega), if_pos (by omega), bt_get s (by omega) (by omega)]
    simp only [Int.toNat_natCast]
    rw [byte_id, xor_byte]
theorem ref_more (r : BitVec 32) (s : ByteArray) (hs : s.size ≤ 9223372036854775806) : Ev (fun k => freshetref01_More.f k (I r) s) (I (PCrc.sum r (L s))) := by
  refine Ev.congr (fun k => ?_) (ref_l0 s hs s.size (~~~ r) 0 (by omega))
  unfold freshetref01_More.f
  rw [not_xor]
  rfl
theorem ref_of (s : ByteArray) (hs : s.size ≤ 9223372036854775806) : Ev (fun k => freshetref01_Of.f k s) (I (PCrc.sum 0 (L s))) := by
  have e : ∀ k, freshetref01_Of.f k s = freshetref01_More.f k (I 0) s := by
    intro k
    unfold freshetref01_Of.f
    show (freshetref01_More.f k (I 0) s).bind _ = _
    cases freshetref01_More.f k (I 0) s <;> rfl
  exact Ev.congr e (ref_more 0 s hs)
theorem of_f (s : ByteArray) (h : s.size ≤ 9223372036854775807) : sum_Of.f s = some (I (PCrc.sum 0 (L s))) := if_pos h
end Go.Proofs.Ytdlnbddkploeoaa.Print
