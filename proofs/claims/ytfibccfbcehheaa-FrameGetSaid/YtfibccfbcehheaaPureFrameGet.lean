/- All bytes are read as the document says: for every input. -/
import Derived.Test.YtfibccfbcehheaaRFrameR
import Derived.Test.YtfibccfbcehheaaPrint6
namespace Go.Proofs.Ytfibccfbcehheaa.Pure
open Go.RowKit Txt Print Go.Proofs.YtfibccfbcehheaaW.PrintWords
theorem FrameGet : freshetlaw04_FrameGet.Pure := by
  intro a0 hs
  have h : Ev (fun k => freshetlaw04_FrameGet.f k a0) true := by
    unfold freshetlaw04_FrameGet.f
    refine Ev.bind (frame_get a0 (by omega)) ?_
    refine Ev.bind (ref_get a0 hs) ?_
    refine Ev.congr (fun k => if_pos rfl) ?_
    refine Ev.congr (fun k => if_pos rfl) ?_
    refine Ev.congr (fun k => if_pos rfl) ?_
    exact Ev.bind awake04 (Ev.now _)
  exact h.rounds
end Go.Proofs.Ytfibccfbcehheaa.Pure
