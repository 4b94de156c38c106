/- The frame of any payload is the document's, and has the size that is told; the size of any number is the document's: for every input. -/
import Derived.Test.YtfibccfbcehheaaRFrameR
import Derived.Test.YtfibccfbcehheaaPrint4
namespace Go.Proofs.Ytfibccfbcehheaa.Pure
open Go.RowKit Txt Print Go.Proofs.YtfibccfbcehheaaW.PrintWords
theorem FramePut : freshetlaw04_FramePut.Pure := by
  intro a0 a1 hs hw
  have hn := i64_of hw
  have h : Ev (fun k => freshetlaw04_FramePut.f k a0 a1) true := by
    unfold freshetlaw04_FramePut.f
    refine Ev.bind (frame_put a0 (by omega)) ?_
    refine Ev.bind (ref_fput a0 (by omega)) ?_
    refine Ev.congr (fun k => if_pos rfl) ?_
    refine Ev.congr (fun k => if_pos rfl) ?_
    refine Ev.bind (frame_size a1) ?_
    refine Ev.bind (ref_size a1 hn) ?_
    refine Ev.congr (fun k => if_pos rfl) ?_
    by_cases h : a0.size ≤ 65536
    · have e := PFrame.put_ok (p := L a0) (by rw [L_length]; exact h)
      rw [e]
      refine Ev.congr (fun k => if_pos rfl) ?_
      refine Ev.bind (frame_size (a0.size : Int)) ?_
      refine Ev.congr (fun k => if_pos ?_) ?_
      · unfold sizeZ
        have ez : (B (PCode.putField (L a0) ++ PFrame.mark (PCode.putField (L a0)))).size = (PCode.putUint a0.size).length + a0.size + 4 := by
          rw [size_B, List.length_append, PFrame.seal_length, PCode.putField, List.length_append, L_length]
        show _ = ((B (PCode.putField (L a0) ++ PFrame.mark (PCode.putField (L a0)))).size : Int)
        rw [if_pos (by omega), ez, Int.toNat_natCast]
        omega
      · exact Ev.bind awake04 (Ev.now _)
    · have e : PFrame.put (L a0) = ([], 3) := by unfold PFrame.put; rw [L_length, if_pos (by omega)]
      rw [e]
      refine Ev.congr (fun k => if_neg (by show ¬ ((3 : Nat) : Int) = 0; omega)) ?_
      exact Ev.bind awake04 (Ev.now _)
  exact h.rounds
end Go.Proofs.Ytfibccfbcehheaa.Pure
