/- Every number is written, and all bytes are read, as the document's short numbers: for every input. -/
import Derived.Test.YtdidcjmefinhjaaRField
import Derived.Test.YtdidcjmefinhjaaPrint4
namespace Go.Proofs.Ytdidcjmefinhjaa.Pure
open Go.RowKit Txt Print Go.Proofs.YtdidcjmefinhjaaW.PrintWords
theorem CodeUint : freshetlaw02_CodeUint.Pure := by
  intro a0 a1 hw hs
  obtain ⟨n, rfl, hn⟩ := u64_of hw
  obtain ⟨K1, h1⟩ := ref_uint a1 (by omega)
  obtain ⟨K2, h2⟩ := code_put n hn
  obtain ⟨K3, h3⟩ := ref_put n hn
  obtain ⟨K4, h4⟩ := awake02
  dsimp only at h1 h2 h3 h4
  refine ⟨K1 + K2 + K3 + K4, ?_⟩
  unfold freshetlaw02_CodeUint.f
  rw [code_uint a1 (by omega), h1 _ (by omega), h2 _ (by omega), h3 _ (by omega), h4 _ (by omega)]
  simp only [Option.bind_some, if_true]
end Go.Proofs.Ytdidcjmefinhjaa.Pure
