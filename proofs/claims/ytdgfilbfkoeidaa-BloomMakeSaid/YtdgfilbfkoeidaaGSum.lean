/- The contracts of package sum in the form in which the printed callers ask them. -/
import Derived.Test.YtdgfilbfkoeidaaSum
namespace Go.Proofs.Ytdgfilbfkoeidaa.Print
open Go.RowKit PLink
def w32 (a : Int) : BitVec 32 := BitVec.ofInt 32 a
theorem I_w32 {a : Int} (h : 0 ≤ a ∧ a ≤ 4294967295) : I (w32 a) = a := I_of h.1 h.2
def sum_Hash.f (a0 : Int) (a1 : ByteArray) : Option Int := if (0 ≤ a0 ∧ a0 ≤ 4294967295) ∧ a1.size ≤ 9223372036854775807 then some (I (PCrc.hash (w32 a0) a1.data.toList)) else none
theorem sum_Hash.calls (a0 : Int) (a1 : ByteArray) (r : Int) (w : World) (h : sum_Hash.f a0 a1 = some r) :
    Calls Try.prog 24 #[.int .u32 a0, .string a1] w fun e w' => e = .returned (.int .u32 r) ∧ Below w.heap.size w w' := by
  unfold sum_Hash.f at h
  split at h
  · rename_i hc
    obtain rfl : I (PCrc.hash (w32 a0) a1.data.toList) = r := by simpa using h
    have := Sum.hash_any (w32 a0) a1 hc.2 w
    rw [I_w32 hc.1] at this
    exact this
  · cases h
end Go.Proofs.Ytdgfilbfkoeidaa.Print
