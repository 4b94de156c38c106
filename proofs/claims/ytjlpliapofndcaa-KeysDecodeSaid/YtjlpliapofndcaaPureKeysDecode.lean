/- Every text is read as the state's key whose text it is, or refused: for every input. -/
import Derived.Test.YtjlpliapofndcaaRKeysD
import Derived.Test.YtjlpliapofndcaaPrint10
namespace Go.Proofs.Ytjlpliapofndcaa.Pure
open Go.RowKit Txt Print Go.Proofs.YtjlpliapofndcaaW.PrintWords
theorem KeysDecode : freshetlaw03_KeysDecode.Pure := by
  intro a0 hs
  have h : Ev (fun k => freshetlaw03_KeysDecode.f k a0) true := by
    unfold freshetlaw03_KeysDecode.f
    by_cases c : (a0.size : Int) > 4096
    · exact Ev.congr (fun k => if_pos c) awake_end
    · refine Ev.congr (fun k => if_neg c) ?_
      refine Ev.bind (keys_decode_ev a0 (by omega)) ?_
      refine Ev.bind (ref_decode a0 (by omega)) ?_
      refine Ev.congr (fun k => if_pos (by simp)) ?_
      refine Ev.congr (fun k => if_pos rfl) ?_
      exact awake_end
  exact h.rounds
end Go.Proofs.Ytjlpliapofndcaa.Pure
