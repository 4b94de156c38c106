/- What is put is got, whatever stands behind it: for every input. -/
import Derived.Test.YtfibccfbcehheaaRFrameR
import Derived.Test.YtfibccfbcehheaaPrint7
namespace Go.Proofs.Ytfibccfbcehheaa.Pure
open Go.RowKit Txt Print Go.Proofs.YtfibccfbcehheaaW.PrintWords
theorem FrameBack : freshetlaw04_FrameBack.Pure := by
  intro a0 a1 hs hs1
  have h : Ev (fun k => freshetlaw04_FrameBack.f k a0 a1) true := by
    unfold freshetlaw04_FrameBack.f
    refine Ev.bind (frame_put a0 (by omega)) ?_
    by_cases h : a0.size ≤ 65536
    · have hle : (L a0).length ≤ 65536 := by rw [L_length]; exact h
      have e := PFrame.put_ok (p := L a0) hle
      have g := PFrame.get_put (L a0) (L a1) hle
      have hf := field_small (L a0) hle
      rw [e] at g ⊢
      simp only at g
      have hz : (PCode.putField (L a0) ++ PFrame.mark (PCode.putField (L a0))).length ≤ 65550 := by
        rw [List.length_append, PFrame.seal_length]; omega
      rw [← size_B] at hz
      refine Ev.congr (fun k => if_pos rfl) ?_
      refine Ev.congr (fun k => if_pos (by simp only; omega)) ?_
      simp only [B_append]
      rw [size_B] at hz
      · refine Ev.bind (frame_get _ (by rw [size_B, List.length_append, L_length]; omega)) ?_
        rw [show L (B (PCode.putField (L a0) ++ PFrame.mark (PCode.putField (L a0)) ++ L a1)) = PCode.putField (L a0) ++ PFrame.mark (PCode.putField (L a0)) ++ L a1 from rfl, g]
        refine Ev.congr (fun k => if_pos (by show (B (L a0)).toList = a0.toList; rw [B_L])) ?_
        refine Ev.congr (fun k => if_pos (by simp only [size_B])) ?_
        refine Ev.congr (fun k => if_pos rfl) ?_
        exact Ev.bind awake04 (Ev.now _)
    · have e : PFrame.put (L a0) = ([], 3) := by unfold PFrame.put; rw [L_length, if_pos (by omega)]
      rw [e]
      refine Ev.congr (fun k => if_neg (by show ¬ ((3 : Nat) : Int) = 0; omega)) ?_
      refine Ev.congr (fun k => if_pos (by omega)) ?_
      refine Ev.congr (fun k => if_pos (by decide +kernel)) ?_
      exact Ev.bind awake04 (Ev.now _)
  exact h.rounds
end Go.Proofs.Ytfibccfbcehheaa.Pure
