/- What is put is read back, whatever stands behind it: for every input within the bound. -/
import Derived.Test.YtdidcjmefinhjaaRRef2
import Derived.Test.YtdidcjmefinhjaaRText
import Derived.Test.YtdidcjmefinhjaaROrd
import Derived.Test.YtdidcjmefinhjaaPrint12
namespace Go.Proofs.Ytdidcjmefinhjaa.Pure
open Go.RowKit Txt Print Go.Proofs.YtdidcjmefinhjaaW.PrintWords
theorem B_append (l : List UInt8) (s : ByteArray) : B l ++ s = B (l ++ L s) := by
  apply L_inj; rw [L_append]
theorem CodeBack (a0 : Int) (a1 : Int) (a2 : ByteArray) (a3 : ByteArray) (hw0 : (Lit.int .u64 a0).wf = true) (hw1 : (Lit.int .i64 a1).wf = true) (hs2 : a2.size ≤ 1048576) (hs3 : a3.size ≤ 1048576) : ∃ k, freshetlaw02_CodeBack.f k a0 a1 a2 a3 = some true := by
  obtain ⟨n, rfl, hn⟩ := u64_of hw0
  have hm := i64_of hw1
  have l2 := L_length a2
  have l3 := L_length a3
  have he := encT_take_le (L a2)
  have p1 := PCode.putUint_length_ten hn
  have p2 := PCode.putOrd_length a1
  have p3 := PCode.putText_length_le (L a2)
  have p4 : (PCode.putField (L a2)).length ≤ 10 + a2.size := by
    unfold PCode.putField
    have := PCode.putUint_length_ten (n := (L a2).length) (by omega)
    rw [List.length_append]; omega
  obtain ⟨K1, h1⟩ := code_put n hn
  obtain ⟨K2, h2⟩ := code_putField a2 (by omega)
  obtain ⟨K3, h3⟩ := code_ord (B (PCode.putOrd a1) ++ a3)
  obtain ⟨K4, h4⟩ := code_field (B (PCode.putField (L a2)) ++ a3) (by rw [B_append, size_B, List.length_append]; omega) (a2.size : Int) (by omega)
  obtain ⟨K5, h5⟩ := awake02
  dsimp only at h1 h2 h3 h4 h5
  have e3 : ordZ (B (PCode.putOrd a1) ++ a3) = (a1, 0) := by
    unfold ordZ
    rw [B_append, if_neg (by rw [size_B, List.length_append]; omega)]
    rw [show L (B (PCode.putOrd a1 ++ L a3)) = PCode.putOrd a1 ++ L a3 from rfl, PCode.ord_put a1 hm.1 hm.2]
  have e4 : PCode.field (L (B (PCode.putField (L a2)) ++ a3)) (a2.size : Int) = (L a2, (PCode.putField (L a2)).length, 0) := by
    rw [B_append]
    exact PCode.field_put (L a2) (L a3) _ (by omega) (by omega)
  have e1 : PCode.uint (L (B (PCode.putUint n) ++ a3)) = (n, (PCode.putUint n).length, 0) := by
    rw [B_append]
    exact PCode.uint_put hn (L a3)
  have e2 : PCode.text (L (B (PCode.putText (L a2)) ++ a3)) = (L a2, (PCode.putText (L a2)).length, 0) := by
    rw [B_append]
    exact PCode.text_put (L a2) (L a3)
  refine ⟨K1 + K2 + K3 + K4 + K5, ?_⟩
  unfold freshetlaw02_CodeBack.f
  have z0 : ((0 : Nat) : Int) = 0 := rfl
  rw [h1 _ (by omega), code_putOrd a1 hm, code_putText a2 (by omega), h2 _ (by omega)]
  simp only [Option.bind_some]
  rw [if_pos (by rw [size_B]; omega), code_uint _ (by rw [B_append, size_B, List.length_append]; omega), e1]
  simp only [Option.bind_some]
  rw [if_pos (by rw [size_B]; omega), h3 _ (by omega), e3]
  simp only [Option.bind_some]
  rw [if_pos (by rw [size_B]; omega), code_text _ (by rw [B_append, size_B, List.length_append]; omega), e2]
  simp only [Option.bind_some]
  rw [if_pos (by rw [size_B]; omega), h4 _ (by omega), e4, h5 _ (by omega)]
  simp only [Option.bind_some, size_B, B_L, if_true, z0]
end Go.Proofs.Ytdidcjmefinhjaa.Pure
