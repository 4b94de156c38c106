/- A text may be summed in two parts, wherever it is cut: for every input. -/
import Derived.Test.YtdlnbddkploeoaaPSum
import Derived.Test.YtdlnbddkploeoaaPrint3
namespace Go.Proofs.Ytdlnbddkploeoaa.Pure
open Go.RowKit PLink Txt Print Go.Proofs.YtdlnbddkploeoaaW.PrintWords
theorem cut_f (a0 : ByteArray) (hs : a0.size ≤ 140737488351232) (x : Int) (h0 : 0 ≤ x) (h1 : x ≤ a0.size) : Ev (fun k => freshetlaw01_SumMore.j1 k a0 x) true := by
  obtain ⟨K3, h3⟩ := awake01
  dsimp only at h3
  refine ⟨K3 + 1, fun k hk => ?_⟩
  obtain ⟨k, rfl⟩ : ∃ m, k = m + 1 := ⟨k - 1, by omega⟩
  simp only [freshetlaw01_SumMore.j1]
  have z1 : (a0.extract 0 x.toNat).size ≤ a0.size := by rw [← L_length, L_take, List.length_take, L_length]; omega
  have z2 : (a0.extract x.toNat a0.size).size ≤ a0.size := by rw [← L_length, L_drop, List.length_drop, L_length]; omega
  rw [if_pos h0, if_pos h1, of_f _ (by omega)]
  simp only [Option.bind_some]
  rw [more_f _ _ (by omega), of_f _ (by omega), h3 _ (by omega), L_take, L_drop, ← PCrc.sum_append, List.take_append_drop]
  simp only [Option.bind_some, if_true]
theorem SumMore : freshetlaw01_SumMore.Pure := by
  intro a0 a1 hs hw
  refine Ev.rounds ?_
  unfold freshetlaw01_SumMore.f
  by_cases h0 : a1 < 0
  · simp only [h0, if_true]
    refine Ev.step (fun k => ?_) (cut_f a0 hs ((a0.size : Int) / 2) (by omega) (by omega))
    simp only [freshetlaw01_SumMore.j0]
    rw [if_pos trivial, wrap_id (by omega) (by omega)]
  · simp only [h0, if_false]
    by_cases h1 : a1 > (a0.size : Int)
    · simp only [h1, decide_true]
      refine Ev.step (fun k => ?_) (cut_f a0 hs ((a0.size : Int) / 2) (by omega) (by omega))
      simp only [freshetlaw01_SumMore.j0]
      rw [if_pos trivial, wrap_id (by omega) (by omega)]
    · simp only [h1, decide_false]
      refine Ev.step (fun k => ?_) (cut_f a0 hs a1 (by omega) (by omega))
      simp only [freshetlaw01_SumMore.j0]
      rw [if_neg (by simp)]
end Go.Proofs.Ytdlnbddkploeoaa.Pure
