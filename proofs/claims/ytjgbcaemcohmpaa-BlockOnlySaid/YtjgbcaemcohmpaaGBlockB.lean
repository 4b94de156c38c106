/- The contract of block.Build in the form in which the printed callers ask it. -/
import Derived.Test.YtjgbcaemcohmpaaBlockE
namespace Go.Proofs.Ytjgbcaemcohmpaa.Print
open Go.RowKit Txt Block Go.Proofs.YtjgbcaemcohmpaaW.PrintWords
/-- rows and a number that fit a machine -/
def FitB (l : List S31) (r : Int) : Prop := (∀ x ∈ l, 0 ≤ x.f1 ∧ x.f1 < 18446744073709551616) ∧ l.length ≤ 9223372036854775806 ∧ -9223372036854775808 ≤ r ∧ r ≤ 9223372036854775807
instance (l : List S31) (r : Int) : Decidable (FitB l r) := by unfold FitB; infer_instance
def block_Build.f (l0 : List S31) (a1 : Int) : Option (ByteArray × Int) :=
  if FitB l0 a1 then some (B (PBlock.build (l0.map rowS) a1).1, ((PBlock.build (l0.map rowS) a1).2 : Int)) else none
theorem block_Build.eq (l0 : List S31) (a1 : Int) (h : FitB l0 a1) : block_Build.f l0 a1 = some (B (PBlock.build (l0.map rowS) a1).1, ((PBlock.build (l0.map rowS) a1).2 : Int)) := if_pos h
theorem block_Build.calls (A0 : Option Addr) (c0 : Nat) (l0 : List S31) (a1 : Int) (r1 : ByteArray) (r2 : Int) (w : World) (hr0 : Kd.C k31 w A0 l0.length l0) (hc0 : l0.length ≤ c0) (h : block_Build.f l0 a1 = some (r1, r2)) :
    Calls Try.prog 12 #[.slice A0 l0.length c0, .int .i64 a1] w fun e w' => e = .returned (.tuple #[.string r1, .int .i64 r2]) ∧ Below w.heap.size w w' := by
  unfold block_Build.f at h
  split at h
  · rename_i hf
    simp only [Option.some.injEq, Prod.mk.injEq] at h
    obtain ⟨rfl, rfl⟩ := h
    exact build_any l0 (fun x hx => ⟨(hf.1 x hx).1, (hf.1 x hx).2⟩) hf.2.1 A0 c0 a1 hf.2.2.1 hf.2.2.2 w hr0 hc0
  · cases h
end Go.Proofs.Ytjgbcaemcohmpaa.Print
