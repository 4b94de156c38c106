/- Every number is written, and all bytes are read, as the document's ordered numbers: for every input. -/
import Derived.Test.YtdidcjmefinhjaaROrd
import Derived.Test.YtdidcjmefinhjaaPrint8
namespace Go.Proofs.Ytdidcjmefinhjaa.Pure
open Go.RowKit Txt Print Go.Proofs.YtdidcjmefinhjaaW.PrintWords
theorem CodeOrd : freshetlaw02_CodeOrd.Pure := by
  intro a0 a1 hw hs
  have hn := i64_of hw
  obtain ⟨K1, h1⟩ := code_ord a1
  obtain ⟨K2, h2⟩ := ref_ord a1
  obtain ⟨K3, h3⟩ := ref_putOrd a0 hn
  obtain ⟨K4, h4⟩ := awake02
  dsimp only at h1 h2 h3 h4
  refine ⟨K1 + K2 + K3 + K4, ?_⟩
  unfold freshetlaw02_CodeOrd.f
  rw [h1 _ (by omega), h2 _ (by omega), code_putOrd a0 hn, h3 _ (by omega), h4 _ (by omega)]
  simp only [Option.bind_some, if_true]
end Go.Proofs.Ytdidcjmefinhjaa.Pure
