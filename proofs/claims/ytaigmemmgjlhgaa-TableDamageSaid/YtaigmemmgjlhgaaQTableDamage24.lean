/- Texts of this claim, joined by a program of this session (wip/pack.py): FBurstP. -/
import Derived.Test.YtaigmemmgjlhgaaQTableDamage4
import Derived.Test.YtaigmemmgjlhgaaQTableDamage13
-- FBurstP
namespace Go.Proofs.Ytaigmemmgjlhgaa.Bits
open Txt PCode
theorem get_burst (p : List UInt8) (hp : p.length ≤ 65536) (b : BitVec 32) (hb : b ≠ 0) (K : Nat) (hK : K + 32 ≤ 8 * (p.length + 4)) :
  PFrame.get (flips (b.toNat : Int) (putUint p.length).length K (PFrame.put p).1 32) = ([], 0, 7) := by
 have hs : (PFrame.put p).1 = putUint p.length ++ p ++ PFrame.mark (putField p) := by rw [PFrame.put_ok hp]; rfl
 have hl : (PFrame.put p).1.length = (putUint p.length).length + p.length + 4 := by rw [hs]; simp [PFrame.seal_length]; omega
 have h1 := fold_burst b hb (~~~ 0) (PFrame.put p).1 (putUint p.length).length K (by omega)
 have h2 : PCrc.fold (~~~ 0) (PFrame.put p).1 = PCrc.residue := by
  rw [PFrame.put_ok hp]
  exact (PFrame.seal_eq_iff (putField p) _ (PFrame.seal_length _)).1 rfl
 have h3 := flips_take (b.toNat : Int) (putUint p.length).length K (PFrame.put p).1 32
 have h4 := q12 (b.toNat : Int) (putUint p.length).length K (PFrame.put p).1 32
 rw [h2] at h1
 rw [hs, List.append_assoc, List.take_left, ← List.append_assoc, ← hs] at h3
 generalize flips (b.toNat : Int) (putUint p.length).length K (PFrame.put p).1 32 = t at h1 h3 h4 ⊢
 rw [hl] at h4
 generalize hq : (t.drop (putUint p.length).length).take p.length = q
 have hql : q.length = p.length := by rw [← hq]; simp; omega
 generalize hm : t.drop ((putUint p.length).length + p.length) = m
 have hml : m.length = 4 := by rw [← hm]; simp; omega
 have ht : t = putField q ++ m := by
  unfold putField
  rw [hql, ← hq, ← hm]
  conv => lhs; rw [← List.take_append_drop (putUint p.length).length t, h3, ← List.take_append_drop p.length (t.drop _), List.drop_drop]
  rw [List.append_assoc]
 have hf := field_put q m 65536 (by omega) (by omega)
 have hfl : (putField q).length = (putUint p.length).length + p.length := by unfold putField; rw [hql]; simp; exact hql
 rw [ht] at h1 ⊢
 unfold PFrame.get
 rw [hf]
 dsimp only
 rw [if_neg (by simp), if_neg (by simp; omega), if_pos]
 rw [List.take_left, List.drop_left, List.take_of_length_le (by omega)]
 exact fun e => h1 ((PFrame.seal_eq_iff _ _ hml).1 e)
end Go.Proofs.Ytaigmemmgjlhgaa.Bits
