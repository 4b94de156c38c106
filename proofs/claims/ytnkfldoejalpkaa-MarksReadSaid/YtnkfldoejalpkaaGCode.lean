/- The contracts of package code in the form in which the printed callers ask them. -/
import Derived.Test.YtnkfldoejalpkaaCodeW
import Derived.Test.YtnkfldoejalpkaaCodeO
namespace Go.Proofs.Ytnkfldoejalpkaa.Print
open Go.RowKit
def code_Uint.f (a0 : ByteArray) : Option (Int × Int × Int) := if a0.size ≤ 9223372036854775806 then some (((PCode.uint a0.data.toList).1 : Int), ((PCode.uint a0.data.toList).2.1 : Int), ((PCode.uint a0.data.toList).2.2 : Int)) else none
theorem code_Uint.calls (a0 : ByteArray) (r1 : Int) (r2 : Int) (r3 : Int) (w : World) (h : code_Uint.f a0 = some (r1, r2, r3)) :
    Calls Try.prog 29 #[.string a0] w fun e w' => e = .returned (.tuple #[.int .u64 r1, .int .i64 r2, .int .i64 r3]) ∧ Below w.heap.size w w' := by
  unfold code_Uint.f at h
  split at h
  · rename_i hc
    simp only [Option.some.injEq, Prod.mk.injEq] at h
    obtain ⟨rfl, rfl, rfl⟩ := h
    exact CodeW.uint_any a0 hc w
  · cases h
def code_PutOrd.f (a0 : Int) : Option ByteArray := if -9223372036854775808 ≤ a0 ∧ a0 ≤ 9223372036854775807 then some ⟨(PCode.putOrd a0).toArray⟩ else none
theorem code_PutOrd.calls (a0 : Int) (r : ByteArray) (w : World) (h : code_PutOrd.f a0 = some r) :
    Calls Try.prog 28 #[.int .i64 a0] w fun e w' => e = .returned (.string r) ∧ Below w.heap.size w w' := by
  unfold code_PutOrd.f at h
  split at h
  · rename_i hc
    obtain rfl := Option.some.inj h
    exact CodeW.putOrd_any a0 hc.1 hc.2 w
  · cases h
end Go.Proofs.Ytnkfldoejalpkaa.Print
