/- The contract of block.read in the form in which the printed callers ask it. -/
import Derived.Test.YtjgbcaemcohmpaaBlockR
namespace Go.Proofs.Ytjgbcaemcohmpaa.Print
open Go.RowKit Txt Block Go.Proofs.YtjgbcaemcohmpaaW.PrintWords
def block_read.f (a0 a1 : ByteArray) : Option (ByteArray × Int × Int × ByteArray × Int) :=
  if a0.size ≤ 1000000 ∧ a1.size ≤ 1000000 then some ((readR (PBlock.read (L a0) (L a1))).f0, (readR (PBlock.read (L a0) (L a1))).f1, (readR (PBlock.read (L a0) (L a1))).f2, (readR (PBlock.read (L a0) (L a1))).f3, (readN (PBlock.read (L a0) (L a1)) : Int)) else none
theorem block_read.eq (a0 a1 : ByteArray) (h : a0.size ≤ 1000000 ∧ a1.size ≤ 1000000) : block_read.f a0 a1 = some ((readR (PBlock.read (L a0) (L a1))).f0, (readR (PBlock.read (L a0) (L a1))).f1, (readR (PBlock.read (L a0) (L a1))).f2, (readR (PBlock.read (L a0) (L a1))).f3, (readN (PBlock.read (L a0) (L a1)) : Int)) := if_pos h
theorem block_read.calls (a0 a1 : ByteArray) (r1 : ByteArray) (r2 r3 : Int) (r4 : ByteArray) (r5 : Int) (w : World) (h : block_read.f a0 a1 = some (r1, r2, r3, r4, r5)) :
    Calls Try.prog 31 #[.string a0, .string a1] w fun e w' => e = .returned (.tuple #[.agg #[.string r1, .int .u64 r2, .int .i64 r3, .string r4], .int .i64 r5]) ∧ Below w.heap.size w w' := by
  unfold block_read.f at h
  split at h
  · rename_i hf
    simp only [Option.some.injEq, Prod.mk.injEq] at h
    obtain ⟨rfl, rfl, rfl, rfl, rfl⟩ := h
    exact read_any a0 a1 hf.1 hf.2 w
  · cases h
end Go.Proofs.Ytjgbcaemcohmpaa.Print
