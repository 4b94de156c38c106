/- The range of the first parts of any is the document's, or refused with the right error: for every input. -/
import Derived.Test.YtjlpliapofndcaaRKeysG
import Derived.Test.YtjlpliapofndcaaPrint12
namespace Go.Proofs.Ytjlpliapofndcaa.Pure
open Go.RowKit Txt Print Go.Proofs.YtjlpliapofndcaaW.PrintWords
theorem KeysRange (st gr : Int) (ky sp sb : ByteArray) (p : Int) (_ : (Lit.int .i64 st).wf = true) (_ : (Lit.int .i64 gr).wf = true) (hp : (Lit.int .i64 p).wf = true) : ∃ k, freshetlaw03_KeysRange.f k st gr ky sp sb p = some true := by
  have h : Ev (fun k => freshetlaw03_KeysRange.f k st gr ky sp sb p) true := by
    unfold freshetlaw03_KeysRange.f
    refine Ev.bind (a := rangeOf st gr ky sp p) (by rw [keys_range hp, rangeOf_eq (sb := sb)]; exact Ev.now _) ?_
    refine Ev.bind (ref_range st gr ky sp sb p) ?_
    refine Ev.congr (fun k => if_pos rfl) ?_
    refine Ev.congr (fun k => if_pos rfl) ?_
    refine Ev.congr (fun k => if_pos rfl) ?_
    exact awake_end
  exact h.rounds
end Go.Proofs.Ytjlpliapofndcaa.Pure
