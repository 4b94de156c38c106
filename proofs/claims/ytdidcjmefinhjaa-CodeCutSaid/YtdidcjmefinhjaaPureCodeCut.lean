/- Of what is put each beginning that is not all ends too early: for every input. -/
import Derived.Test.YtdidcjmefinhjaaRText
import Derived.Test.YtdidcjmefinhjaaPrint11
namespace Go.Proofs.Ytdidcjmefinhjaa.Pure
open Go.RowKit Txt Print Go.Proofs.YtdidcjmefinhjaaW.PrintWords Go.Proofs.YtdidcjmefinhjaaW.PrintMore
theorem short (n : Nat) (h : 0 < n) (hn : n ≤ 9223372036854775807) (y : Int) (hy : 0 ≤ y) : ∃ m : Nat, mn y (wrap64 ((n : Int) - 1)) = (m : Int) ∧ m < n := by
  rw [wrap_id (by omega) (by omega)]
  unfold mn
  split
  · exact ⟨n - 1, by omega, by omega⟩
  · exact ⟨y.toNat, by omega, by omega⟩
theorem cut_j1 (n : Nat) (hn : n < 18446744073709551616) (s : ByteArray) (hs : s.size ≤ 300) (y : Int) (hy : 0 ≤ y) : Ev (fun k => freshetlaw02_CodeCut.j1 k (B (PCode.putUint n)) (B (PCode.putText (L s))) (B (PCode.putField (L s))) y) true := by
  have p1 := PCode.putUint_pos n
  have q1 := PCode.putUint_length_ten hn
  have p2 := PCode.putText_length (L s)
  have q2 := PCode.putText_length_le (L s)
  have p3 : 0 < (PCode.putField (L s)).length := by unfold PCode.putField; have := PCode.putUint_pos (L s).length; rw [List.length_append]; omega
  have q3 : (PCode.putField (L s)).length ≤ 310 := by unfold PCode.putField; have := PCode.putUint_length_ten (n := (L s).length) (by rw [L_length]; omega); rw [L_length] at *; simp only [List.length_append, L_length]; omega
  rw [L_length] at q2
  obtain ⟨m1, e1, l1⟩ := short _ p1 (by omega) y hy
  obtain ⟨m2, e2, l2⟩ := short _ (show 0 < (PCode.putText (L s)).length by omega) (by omega) y hy
  obtain ⟨m3, e3, l3⟩ := short _ p3 (by omega) y hy
  obtain ⟨K, h⟩ := code_field ((B (PCode.putField (L s))).extract 0 m3) (by rw [← L_length, L_take, List.length_take]; show min m3 (PCode.putField (L s)).length ≤ _; omega) 300 (by decide)
  obtain ⟨K4, h4⟩ := awake02
  dsimp only at h h4
  rw [L_take, show L (B (PCode.putField (L s))) = PCode.putField (L s) from rfl, PCode.field_cut (by rw [L_length]; omega) (by rw [L_length]; omega) l3] at h
  refine Ev.step (f := fun k => freshetlaw02_CodeCut.j1 (k + 1) (B (PCode.putUint n)) (B (PCode.putText (L s))) (B (PCode.putField (L s))) y) (fun k => rfl) ⟨K + K4, fun k hk => ?_⟩
  simp only [freshetlaw02_CodeCut.j1]
  simp only [size_B]
  rw [e1, e2, e3, if_pos (by omega), if_pos (by omega)]
  simp only [Int.toNat_natCast]
  rw [code_uint _ (by rw [← L_length, L_take, List.length_take]; show min m1 (PCode.putUint n).length ≤ _; omega), L_take, show L (B (PCode.putUint n)) = PCode.putUint n from rfl, PCode.uint_cut hn l1]
  simp only [Option.bind_some]
  rw [if_pos (by omega), if_pos (by omega), code_text _ (by rw [← L_length, L_take, List.length_take]; show min m2 (PCode.putText (L s)).length ≤ _; omega), L_take, show L (B (PCode.putText (L s))) = PCode.putText (L s) from rfl, PCode.text_cut _ _ l2]
  simp only [Option.bind_some]
  rw [if_pos (by omega), if_pos (by omega), h _ (by omega)]
  simp only [Option.bind_some]
  have z0 : ((0 : Nat) : Int) = 0 := rfl
  have z6 : ((6 : Nat) : Int) = 6 := rfl
  have zb : (B []).toList = ([] : List UInt8) := by decide +kernel
  rw [if_pos z0, if_pos z6, if_pos zb, if_pos z0, if_pos z6, if_pos zb, if_pos z0, if_pos z6, h4 _ (by omega)]
  rfl
theorem CodeCut : freshetlaw02_CodeCut.Pure := by
  intro a0 a1 a2 hw hs hw2
  obtain ⟨n, rfl, hn⟩ := u64_of hw
  obtain ⟨K4, h4⟩ := awake02
  dsimp only at h4
  by_cases hbig : (a1.size : Int) > 300
  · refine ⟨K4, ?_⟩
    unfold freshetlaw02_CodeCut.f
    rw [if_pos hbig, h4 _ (by omega)]
    rfl
  · have he := encT_take_le (L a1)
    rw [L_length] at he
    obtain ⟨K1, h1⟩ := code_put n hn
    obtain ⟨K2, h2⟩ := code_putField a1 (by omega)
    obtain ⟨K3, h3⟩ := cut_j1 n hn a1 (by omega) (if a2 < 0 then 0 else a2) (by split <;> omega)
    dsimp only at h1 h2 h3
    refine ⟨K1 + K2 + K3 + K4 + 1, ?_⟩
    unfold freshetlaw02_CodeCut.f
    have p1 := PCode.putUint_pos n
    have p2 := PCode.putText_length (L a1)
    have p3 : 0 < (PCode.putField (L a1)).length := by unfold PCode.putField; have := PCode.putUint_pos (L a1).length; rw [List.length_append]; omega
    have b3 : (((PCode.putField (L a1)).length : Int) == 0) = false := by
      rw [beq_eq_false_iff_ne]; omega
    rw [if_neg hbig, h1 _ (by omega), code_putText a1 (by omega), h2 _ (by omega)]
    simp only [Option.bind_some, size_B]
    rw [if_neg (by omega), if_neg (by omega), b3]
    simp only [freshetlaw02_CodeCut.j0, Bool.false_eq_true, if_false]
    have := h3 (K1 + K2 + K3 + K4) (by omega)
    by_cases h0 : a2 < 0
    · rw [if_pos h0] at this ⊢
      exact this
    · rw [if_neg h0] at this ⊢
      exact this
end Go.Proofs.Ytdidcjmefinhjaa.Pure
