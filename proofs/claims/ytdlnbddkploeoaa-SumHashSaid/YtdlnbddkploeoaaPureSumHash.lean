/- The hash of any text, by any seed, is what the document says: for every input. -/
import Derived.Test.YtdlnbddkploeoaaPSum
import Derived.Test.YtdlnbddkploeoaaPrint2
namespace Go.Proofs.Ytdlnbddkploeoaa.Pure
open Go.RowKit PLink Txt Print Go.Proofs.YtdlnbddkploeoaaW.PrintWords
theorem hash_both (r : BitVec 32) (a1 : ByteArray) (hs : a1.size ≤ 140737488351232) : ∃ K, ∀ k, K ≤ k → freshetref01_Hash.f k (I r) a1 = some (I (PCrc.hash r (L a1))) := ref_hash r a1 (by omega)
theorem hash_one (r : BitVec 32) (a1 : ByteArray) (hs : a1.size ≤ 140737488351232) : ∃ y, sum_Hash.f (I r) a1 = some y ∧ ∃ K, ∀ k, K ≤ k → freshetref01_Hash.f k (I r) a1 = some y := ⟨_, hash_f r a1 (by omega), hash_both r a1 hs⟩
theorem hash_law (r : BitVec 32) (a1 : ByteArray) (hs : a1.size ≤ 140737488351232) : ∃ k, freshetlaw01_SumHash.f k (I r) a1 = some true := by
  obtain ⟨y, h0, K1, h1⟩ := hash_one r a1 hs
  obtain ⟨K3, h3⟩ := awake01
  dsimp only at h3
  refine ⟨K1 + K3, ?_⟩
  unfold freshetlaw01_SumHash.f
  rw [h0, h1 _ (by omega), h3 _ (by omega)]
  simp only [Option.bind_some, if_true]
theorem SumHash : freshetlaw01_SumHash.Pure := by
  intro a0 a1 hw hs
  obtain ⟨r, rfl⟩ := word_of hw
  exact hash_law r a1 hs
end Go.Proofs.Ytdlnbddkploeoaa.Pure
