/- Of two numbers the lesser one has not more bytes, and each has 1 to 10: for every input. -/
import Derived.Test.YtdidcjmefinhjaaRField
import Derived.Test.YtdidcjmefinhjaaPrint5
namespace Go.Proofs.Ytdidcjmefinhjaa.Pure
open Go.RowKit Txt Print Go.Proofs.YtdidcjmefinhjaaW.PrintWords
theorem CodeLess : freshetlaw02_CodeLess.Pure := by
  intro a0 a1 hw0 hw1
  obtain ⟨n, rfl, hn⟩ := u64_of hw0
  obtain ⟨m, rfl, hm⟩ := u64_of hw1
  obtain ⟨K1, h1⟩ := code_put n hn
  obtain ⟨K2, h2⟩ := code_put m hm
  obtain ⟨K3, h3⟩ := awake02
  dsimp only at h1 h2 h3
  refine ⟨K1 + K2 + K3, ?_⟩
  unfold freshetlaw02_CodeLess.f
  rw [h1 _ (by omega), h2 _ (by omega), h3 _ (by omega)]
  simp only [Option.bind_some]
  have a := PCode.putUint_pos n
  have b := PCode.putUint_length_ten hn
  have c1 := PCode.putUint_length_mono n m
  have c2 := PCode.putUint_length_mono m n
  rw [← size_B] at a b
  rw [← size_B, ← size_B (PCode.putUint n)] at c1
  rw [← size_B, ← size_B (PCode.putUint m)] at c2
  by_cases hlt : n < m
  · have := c2 (by omega)
    rw [if_neg (by omega), if_pos (by omega), if_pos (by omega), if_pos (by omega), if_pos (by omega)]
  · have := c1 (by omega)
    by_cases hgt : m < n
    · rw [if_pos (by omega), if_neg (by omega), if_pos (by omega), if_pos (by omega), if_pos (by omega)]
    · have := c2 (by omega)
      rw [if_neg (by omega), if_pos (by omega), if_neg (by omega), if_pos (by omega), if_pos (by omega), if_pos (by omega)]
end Go.Proofs.Ytdidcjmefinhjaa.Pure
