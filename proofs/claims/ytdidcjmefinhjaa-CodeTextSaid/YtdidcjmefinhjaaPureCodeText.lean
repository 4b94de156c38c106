/- Every text is written, and all bytes are read, as the document's ordered texts: for every input. -/
import Derived.Test.YtdidcjmefinhjaaRText
import Derived.Test.YtdidcjmefinhjaaPrint10
namespace Go.Proofs.Ytdidcjmefinhjaa.Pure
open Go.RowKit Txt Print Go.Proofs.YtdidcjmefinhjaaW.PrintWords
theorem CodeText : freshetlaw02_CodeText.Pure := by
  intro a0 a1 hs0 hs1
  obtain ⟨K1, h1⟩ := ref_text a1 (by omega)
  obtain ⟨K2, h2⟩ := ref_putText a0 (by omega)
  obtain ⟨K4, h4⟩ := awake02
  dsimp only at h1 h2 h4
  refine ⟨K1 + K2 + K4 + 1, ?_⟩
  unfold freshetlaw02_CodeText.f
  by_cases hb : (a0.size : Int) > 4096 ∨ (a1.size : Int) > 4096
  · have e : (if (a0.size : Int) > 4096 then freshetlaw02_CodeText.j0 (K1 + K2 + K4 + 1) a0 a1 true else freshetlaw02_CodeText.j0 (K1 + K2 + K4 + 1) a0 a1 (decide ((a1.size : Int) > 4096))) = freshetlaw02_CodeText.j0 (K1 + K2 + K4 + 1) a0 a1 true := by
      by_cases h : (a0.size : Int) > 4096
      · rw [if_pos h]
      · rw [if_neg h, decide_eq_true (by omega)]
    rw [e]
    simp only [freshetlaw02_CodeText.j0, if_true]
    rw [h4 _ (by omega)]
    rfl
  · rw [if_neg (by omega), decide_eq_false (by omega)]
    simp only [freshetlaw02_CodeText.j0, Bool.false_eq_true, if_false]
    have he := encT_take_le (L a0)
    rw [L_length] at he
    rw [code_text a1 (by omega), h1 _ (by omega), code_putText a0 (by omega), h2 _ (by omega), h4 _ (by omega)]
    simp only [Option.bind_some, if_true]
end Go.Proofs.Ytdidcjmefinhjaa.Pure
