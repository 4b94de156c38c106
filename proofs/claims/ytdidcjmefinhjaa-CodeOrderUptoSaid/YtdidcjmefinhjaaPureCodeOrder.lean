/- Ordered numbers and ordered texts stand in the order of what they tell, whatever stands behind the texts; no ordered text begins another one: for every input within the bound. -/
import Derived.Test.YtdidcjmefinhjaaRRef2
import Derived.Test.YtdidcjmefinhjaaRText
import Derived.Test.YtdidcjmefinhjaaPrint4
namespace Go.Proofs.Ytdidcjmefinhjaa.Pure
open Go.RowKit Txt Print Go.Proofs.YtdidcjmefinhjaaW.PrintWords
theorem L_toList (s : ByteArray) : s.toList = L s := ByteArray.toList_eq s
theorem CodeOrder (a0 : Int) (a1 : Int) (a2 : ByteArray) (a3 : ByteArray) (a4 : ByteArray) (a5 : ByteArray) (hw0 : (Lit.int .i64 a0).wf = true) (hw1 : (Lit.int .i64 a1).wf = true) (hs2 : a2.size ≤ 1048576) (hs3 : a3.size ≤ 1048576) (hs4 : a4.size ≤ 1048576) (hs5 : a5.size ≤ 1048576) : ∃ k, freshetlaw02_CodeOrder.f k a0 a1 a2 a3 a4 a5 = some true := by
  have m0 := i64_of hw0
  have m1 := i64_of hw1
  have l2 := L_length a2
  have l3 := L_length a3
  have i2 := encT_take_le (L a2)
  have i3 := encT_take_le (L a3)
  have p2 := PCode.putText_length_le (L a2)
  have p3 := PCode.putText_length_le (L a3)
  obtain ⟨K5, h5⟩ := awake02
  dsimp only at h5
  refine ⟨K5 + 2, ?_⟩
  unfold freshetlaw02_CodeOrder.f
  rw [code_putOrd a0 m0, code_putOrd a1 m1, code_putText a2 (by omega), code_putText a3 (by omega)]
  simp only [Option.bind_some, L_toList]
  have c1 : (decide (a0 < a1) != Op.bytesLess (L (B (PCode.putOrd a0))) (L (B (PCode.putOrd a1)))) = false := by
    have := PCode.lt_ord m0.1 m0.2 m1.1 m1.2
    rw [show Op.bytesLess (L (B (PCode.putOrd a0))) (L (B (PCode.putOrd a1))) = decide (a0 < a1) from this]
    simp
  have c2 : ((a0 == a1) != (L (B (PCode.putOrd a0)) == L (B (PCode.putOrd a1)))) = false := by
    by_cases h : a0 = a1
    · subst h; simp
    · have : ¬ L (B (PCode.putOrd a0)) = L (B (PCode.putOrd a1)) := fun e => h (PCode.putOrd_inj m0.1 m0.2 m1.1 m1.2 e)
      rw [beq_eq_false_iff_ne.2 h, beq_eq_false_iff_ne.2 this]; rfl
  have c3 : ((L a2 == L a3) != (L (B (PCode.putText (L a2))) == L (B (PCode.putText (L a3))))) = false := by
    by_cases h : L a2 = L a3
    · rw [h]; simp
    · have : ¬ L (B (PCode.putText (L a2))) = L (B (PCode.putText (L a3))) := fun e => h (PCode.putText_inj e)
      rw [beq_eq_false_iff_ne.2 h, beq_eq_false_iff_ne.2 this]; rfl
  rw [if_neg (by rw [c1]; simp), if_neg (by rw [c2]; simp), c3]
  simp only [freshetlaw02_CodeOrder.j0, Bool.false_eq_true, if_false, L_toList]
  by_cases he : L a2 = L a3
  · rw [if_pos he]
    simp only [freshetlaw02_CodeOrder.j1, Bool.false_eq_true, if_false, L_toList]
    rw [if_pos he, h5 _ (by omega)]
    rfl
  · rw [if_neg he, if_pos (by rw [size_B]; omega), if_pos (by rw [size_B]; omega)]
    have c4 : (Op.bytesLess (L a2) (L a3) != Op.bytesLess (L (B (PCode.putText (L a2)) ++ a4)) (L (B (PCode.putText (L a3)) ++ a5))) = false := by
      rw [L_append, L_append]
      have := PCode.lt_text (L a2) (L a3) (L a4) (L a5) he
      rw [show Op.bytesLess (L (B (PCode.putText (L a2))) ++ L a4) (L (B (PCode.putText (L a3))) ++ L a5) = Op.bytesLess (L a2) (L a3) from this]
      simp
    rw [c4]
    simp only [freshetlaw02_CodeOrder.j1, Bool.false_eq_true, if_false, L_toList]
    rw [if_neg he, h5 _ (by omega)]
    simp only [Option.bind_some]
    split
    · rename_i hle
      rw [if_pos (by omega)]
      rw [if_neg]
      intro e
      simp only [Int.toNat_natCast] at e
      rw [L_take, size_B] at e
      have e' : (PCode.putText (L a3)).take (PCode.putText (L a2)).length = PCode.putText (L a2) := e
      refine he (PCode.text_begins (L a2) (L a3) ((PCode.putText (L a3)).drop (PCode.putText (L a2)).length) ?_)
      rw [← e', List.length_take]
      conv => lhs; rw [← List.take_append_drop (PCode.putText (L a2)).length (PCode.putText (L a3))]
      rw [size_B, size_B] at hle
      rw [Nat.min_eq_left (by omega)]
    · rfl
end Go.Proofs.Ytdidcjmefinhjaa.Pure
