/- The contracts of package code in the form in which the printed callers ask them. -/
import Derived.Test.YtjlpliapofndcaaCodeW
import Derived.Test.YtjlpliapofndcaaCodeT
import Derived.Test.YtjlpliapofndcaaCodeX
namespace Go.Proofs.Ytjlpliapofndcaa.Print
open Go.RowKit
def code_PutText.f (a0 : ByteArray) : Option ByteArray := if (PCode.encT a0.data.toList).length + 2 ≤ 140737488355328 then some ⟨(PCode.putText a0.data.toList).toArray⟩ else none
theorem code_PutText.calls (a0 : ByteArray) (r : ByteArray) (w : World) (h : code_PutText.f a0 = some r) :
    Calls Try.prog 41 #[.string a0] w fun e w' => e = .returned (.string r) ∧ Below w.heap.size w w' := by
  unfold code_PutText.f at h
  split at h
  · rename_i hc
    obtain rfl := Option.some.inj h
    exact CodeW.putText_any a0 hc w
  · cases h
def code_Text.f (a0 : ByteArray) : Option (ByteArray × Int × Int) := if a0.size ≤ 140737488355326 then some (⟨(PCode.text a0.data.toList).1.toArray⟩, ((PCode.text a0.data.toList).2.1 : Int), ((PCode.text a0.data.toList).2.2 : Int)) else none
theorem code_Text.calls (a0 : ByteArray) (r1 : ByteArray) (r2 : Int) (r3 : Int) (w : World) (h : code_Text.f a0 = some (r1, r2, r3)) :
    Calls Try.prog 32 #[.string a0] w fun e w' => e = .returned (.tuple #[.string r1, .int .i64 r2, .int .i64 r3]) ∧ Below w.heap.size w w' := by
  unfold code_Text.f at h
  split at h
  · rename_i hc
    simp only [Option.some.injEq, Prod.mk.injEq] at h
    obtain ⟨rfl, rfl, rfl⟩ := h
    exact CodeW.text_any a0 hc w
  · cases h
end Go.Proofs.Ytjlpliapofndcaa.Print
