/- The contracts of package code in the form in which the printed callers ask them. -/
import Derived.Test.YtjgbcaemcohmpaaCodeW
namespace Go.Proofs.Ytjgbcaemcohmpaa.Print
open Go.RowKit
def code_Uint.f (a0 : ByteArray) : Option (Int × Int × Int) := if a0.size ≤ 9223372036854775806 then some (((PCode.uint a0.data.toList).1 : Int), ((PCode.uint a0.data.toList).2.1 : Int), ((PCode.uint a0.data.toList).2.2 : Int)) else none
theorem code_Uint.calls (a0 : ByteArray) (r1 : Int) (r2 : Int) (r3 : Int) (w : World) (h : code_Uint.f a0 = some (r1, r2, r3)) :
    Calls Try.prog 44 #[.string a0] w fun e w' => e = .returned (.tuple #[.int .u64 r1, .int .i64 r2, .int .i64 r3]) ∧ Below w.heap.size w w' := by
  unfold code_Uint.f at h
  split at h
  · rename_i hc
    simp only [Option.some.injEq, Prod.mk.injEq] at h
    obtain ⟨rfl, rfl, rfl⟩ := h
    exact CodeW.uint_any a0 hc w
  · cases h
end Go.Proofs.Ytjgbcaemcohmpaa.Print
