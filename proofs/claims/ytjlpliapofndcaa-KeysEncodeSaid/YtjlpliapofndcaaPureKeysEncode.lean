/- Every state's key is written as the document says, or refused with the right error: for every input. -/
import Derived.Test.YtjlpliapofndcaaRKeysR
import Derived.Test.YtjlpliapofndcaaPrint7
namespace Go.Proofs.Ytjlpliapofndcaa.Pure
open Go.RowKit Txt Print Go.Proofs.YtjlpliapofndcaaW.PrintWords
theorem KeysEncode (st gr : Int) (ky sp sb : ByteArray) (_ : (Lit.int .i64 st).wf = true) (_ : (Lit.int .i64 gr).wf = true) : ∃ k, freshetlaw03_KeysEncode.f k st gr ky sp sb = some true := by
  have h : Ev (fun k => freshetlaw03_KeysEncode.f k st gr ky sp sb) true := by
    unfold freshetlaw03_KeysEncode.f
    refine Ev.bind (a := (B (PKeys.encode (kOf st gr ky sp sb)).1, ((PKeys.encode (kOf st gr ky sp sb)).2 : Int))) (by rw [keys_encode]; exact Ev.now _) ?_
    refine Ev.bind (ref_encode st gr ky sp sb) ?_
    refine Ev.congr (fun k => if_pos rfl) ?_
    refine Ev.congr (fun k => if_pos rfl) ?_
    refine Ev.bind (keys_check_ev st gr ky sp sb) ?_
    refine Ev.bind (ref_check st gr ky sp sb) ?_
    refine Ev.congr (fun k => if_pos rfl) ?_
    exact awake_end
  exact h.rounds
end Go.Proofs.Ytjlpliapofndcaa.Pure
