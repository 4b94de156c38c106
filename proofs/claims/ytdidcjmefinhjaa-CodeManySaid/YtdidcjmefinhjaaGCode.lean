/- The contracts of package code in the form in which the printed callers ask them. -/
import Derived.Test.YtdidcjmefinhjaaCodeW
import Derived.Test.YtdidcjmefinhjaaCodeO
import Derived.Test.YtdidcjmefinhjaaCodeT
import Derived.Test.YtdidcjmefinhjaaCodeX
namespace Go.Proofs.Ytdidcjmefinhjaa.Print
open Go.RowKit
def code_Uint.f (a0 : ByteArray) : Option (Int × Int × Int) := if a0.size ≤ 9223372036854775806 then some (((PCode.uint a0.data.toList).1 : Int), ((PCode.uint a0.data.toList).2.1 : Int), ((PCode.uint a0.data.toList).2.2 : Int)) else none
theorem code_Uint.calls (a0 : ByteArray) (r1 : Int) (r2 : Int) (r3 : Int) (w : World) (h : code_Uint.f a0 = some (r1, r2, r3)) :
    Calls Try.prog 13 #[.string a0] w fun e w' => e = .returned (.tuple #[.int .u64 r1, .int .i64 r2, .int .i64 r3]) ∧ Below w.heap.size w w' := by
  unfold code_Uint.f at h
  split at h
  · rename_i hc
    simp only [Option.some.injEq, Prod.mk.injEq] at h
    obtain ⟨rfl, rfl, rfl⟩ := h
    exact CodeW.uint_any a0 hc w
  · cases h
def code_PutOrd.f (a0 : Int) : Option ByteArray := if -9223372036854775808 ≤ a0 ∧ a0 ≤ 9223372036854775807 then some ⟨(PCode.putOrd a0).toArray⟩ else none
theorem code_PutOrd.calls (a0 : Int) (r : ByteArray) (w : World) (h : code_PutOrd.f a0 = some r) :
    Calls Try.prog 18 #[.int .i64 a0] w fun e w' => e = .returned (.string r) ∧ Below w.heap.size w w' := by
  unfold code_PutOrd.f at h
  split at h
  · rename_i hc
    obtain rfl := Option.some.inj h
    exact CodeW.putOrd_any a0 hc.1 hc.2 w
  · cases h
def code_PutText.f (a0 : ByteArray) : Option ByteArray := if (PCode.encT a0.data.toList).length + 2 ≤ 140737488355328 then some ⟨(PCode.putText a0.data.toList).toArray⟩ else none
theorem code_PutText.calls (a0 : ByteArray) (r : ByteArray) (w : World) (h : code_PutText.f a0 = some r) :
    Calls Try.prog 19 #[.string a0] w fun e w' => e = .returned (.string r) ∧ Below w.heap.size w w' := by
  unfold code_PutText.f at h
  split at h
  · rename_i hc
    obtain rfl := Option.some.inj h
    exact CodeW.putText_any a0 hc w
  · cases h
def code_Text.f (a0 : ByteArray) : Option (ByteArray × Int × Int) := if a0.size ≤ 140737488355326 then some (⟨(PCode.text a0.data.toList).1.toArray⟩, ((PCode.text a0.data.toList).2.1 : Int), ((PCode.text a0.data.toList).2.2 : Int)) else none
theorem code_Text.calls (a0 : ByteArray) (r1 : ByteArray) (r2 : Int) (r3 : Int) (w : World) (h : code_Text.f a0 = some (r1, r2, r3)) :
    Calls Try.prog 27 #[.string a0] w fun e w' => e = .returned (.tuple #[.string r1, .int .i64 r2, .int .i64 r3]) ∧ Below w.heap.size w w' := by
  unfold code_Text.f at h
  split at h
  · rename_i hc
    simp only [Option.some.injEq, Prod.mk.injEq] at h
    obtain ⟨rfl, rfl, rfl⟩ := h
    exact CodeW.text_any a0 hc w
  · cases h
end Go.Proofs.Ytdidcjmefinhjaa.Print
