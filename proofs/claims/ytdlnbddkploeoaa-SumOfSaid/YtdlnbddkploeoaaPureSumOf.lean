/- The sum of any bytes, and of any sum with bytes behind, is what the document says: for every input. -/
import Derived.Test.YtdlnbddkploeoaaPSum
import Derived.Test.YtdlnbddkploeoaaPrint2
namespace Go.Proofs.Ytdlnbddkploeoaa.Pure
open Go.RowKit PLink Txt Print Go.Proofs.YtdlnbddkploeoaaW.PrintWords
theorem SumOf : freshetlaw01_SumOf.Pure := by
  intro a0 a1 hs hw
  obtain ⟨r, rfl⟩ := word_of hw
  obtain ⟨K1, h1⟩ := ref_of a0 (by omega)
  dsimp only at h1
  obtain ⟨K2, h2⟩ := ref_more r a0 (by omega)
  dsimp only at h2
  obtain ⟨K3, h3⟩ := awake01
  dsimp only at h3
  refine ⟨K1 + K2 + K3, ?_⟩
  unfold freshetlaw01_SumOf.f
  rw [of_f a0 (by omega), h1 _ (by omega), more_f r a0 (by omega), h2 _ (by omega), h3 _ (by omega)]
  simp only [Option.bind_some, if_true]
end Go.Proofs.Ytdlnbddkploeoaa.Pure
