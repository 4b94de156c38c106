/- Every text is written, and all bytes are read, as the document's fields, whatever the bound: for every input. -/
import Derived.Test.YtdidcjmefinhjaaRField
import Derived.Test.YtdidcjmefinhjaaPrint6
namespace Go.Proofs.Ytdidcjmefinhjaa.Pure
open Go.RowKit Txt Print Go.Proofs.YtdidcjmefinhjaaW.PrintWords
theorem CodeField : freshetlaw02_CodeField.Pure := by
  intro a0 a1 a2 h0 h1 hw
  have hm := i64_of hw
  obtain ⟨K1, h1⟩ := code_field a1 (by omega) a2 hm
  obtain ⟨K2, h2⟩ := ref_field a1 (by omega) a2 hm
  obtain ⟨K3, h3⟩ := code_putField a0 (by omega)
  obtain ⟨K4, h4⟩ := ref_putField a0 (by omega)
  obtain ⟨K5, h5⟩ := awake02
  dsimp only at h1 h2 h3 h4 h5
  refine ⟨K1 + K2 + K3 + K4 + K5, ?_⟩
  unfold freshetlaw02_CodeField.f
  rw [h1 _ (by omega), h2 _ (by omega), h3 _ (by omega), h4 _ (by omega), h5 _ (by omega)]
  simp only [Option.bind_some, if_true]
end Go.Proofs.Ytdidcjmefinhjaa.Pure
