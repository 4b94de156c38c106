/- All bytes that have their own sum behind them have one and the same sum: for every input. -/
import Derived.Test.YtdlnbddkploeoaaPSum
import Derived.Test.YtdlnbddkploeoaaPrint6
import Derived.Test.YtdlnbddkploeoaaPrint6
namespace Go.Proofs.Ytdlnbddkploeoaa.Pure
open Go.RowKit PLink Txt Print Go.Proofs.YtdlnbddkploeoaaW.PrintWords
theorem le4_nums (u : BitVec 32) : L (strOfNums [I u % 256, (I u / 256) % 256, (I u / 65536) % 256, (I u / 16777216) % 256]) = PCrc.le4 u := by
  rw [L_nums]
  have := u.isLt
  have a : (I u % 256).toNat = u.toNat % 256 := by unfold I; omega
  have b : (I u / 256 % 256).toNat = u.toNat / 256 % 256 := by unfold I; omega
  have c : (I u / 65536 % 256).toNat = u.toNat / 65536 % 256 := by unfold I; omega
  have d : (I u / 16777216 % 256).toNat = u.toNat / 16777216 := by unfold I; omega
  simp only [List.map_cons, List.map_nil, a, b, c, d]
  rfl
theorem sealed_f (s : ByteArray) (h : s.size ≤ 140737488351232) : ∃ t, freshetlaw01_sealed.f s = some t ∧ L t = L s ++ PCrc.le4 (PCrc.sum 0 (L s)) ∧ t.size = s.size + 4 := by
  unfold freshetlaw01_sealed.f
  rw [of_f s (by omega)]
  simp only [Option.bind_some]
  rw [if_pos (by rw [strOfNums_size]; simp; omega)]
  refine ⟨_, rfl, ?_, ?_⟩
  · rw [L_append, le4_nums]
  · rw [ByteArray.size_append, strOfNums_size]; rfl
theorem sum_sealed (l : List UInt8) : PCrc.sum 0 (l ++ PCrc.le4 (PCrc.sum 0 l)) = ~~~ PCrc.residue := by
  unfold PCrc.sum
  rw [PCrc.fold_seal]
theorem SumSeal : freshetlaw01_SumSeal.Pure := by
  intro a0 a1 hs hs1
  obtain ⟨t, e, ht, hl⟩ := sealed_f a0 hs
  obtain ⟨u, e1, hu, hl1⟩ := sealed_f a1 hs1
  obtain ⟨K3, h3⟩ := awake01
  dsimp only at h3
  refine ⟨K3, ?_⟩
  unfold freshetlaw01_SumSeal.f
  rw [e, e1, h3 _ (by omega)]
  simp only [Option.bind_some]
  rw [of_f t (by omega), of_f u (by omega), ht, hu, sum_sealed, sum_sealed]
  simp only [Option.bind_some, if_true]
end Go.Proofs.Ytdlnbddkploeoaa.Pure
