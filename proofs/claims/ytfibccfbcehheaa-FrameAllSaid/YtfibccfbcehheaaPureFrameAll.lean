/- Frames one behind the other are read as the document says: for every input. -/
import Derived.Test.YtfibccfbcehheaaRFrames
import Derived.Test.YtfibccfbcehheaaPrint8
namespace Go.Proofs.Ytfibccfbcehheaa.Pure
open Go.RowKit Txt Print Go.Proofs.YtfibccfbcehheaaW.PrintWords
theorem FrameAll : freshetlaw04_FrameAll.Pure := by
  intro a0 hs
  have h : Ev (fun k => freshetlaw04_FrameAll.f k a0) true := by
    unfold freshetlaw04_FrameAll.f
    by_cases hl : (a0.size : Int) > 4096
    · refine Ev.congr (fun k => if_pos hl) ?_
      exact Ev.bind awake04 (Ev.now _)
    · refine Ev.congr (fun k => if_neg hl) ?_
      refine Ev.bind (frame_all_ev a0 (by omega)) ?_
      refine Ev.bind (ref_all a0 (by omega)) ?_
      have hn := all_length a0
      have h1 := ref_same ((PFrame.all (L a0)).1.map B) ((PFrame.all (L a0)).1.map B) (by rw [List.length_map]; omega)
      rw [decide_eq_true rfl] at h1
      refine Ev.bind h1 ?_
      refine Ev.congr (fun k => if_pos rfl) ?_
      refine Ev.congr (fun k => if_pos rfl) ?_
      refine Ev.congr (fun k => if_pos rfl) ?_
      exact Ev.bind awake04 (Ev.now _)
  exact h.rounds
end Go.Proofs.Ytfibccfbcehheaa.Pure
