/- The contracts of package bloom in the form in which the printed callers ask them. -/
import Derived.Test.YtdgfilbfkoeidaaBloomO
namespace Go.Proofs.Ytdgfilbfkoeidaa.Print
set_option linter.unusedVariables false
open Go.RowKit PLink Txt Go.Proofs.YtdgfilbfkoeidaaW.PrintWords
def bloom_Make.f (l : List ByteArray) (a1 : Int) : Option (ByteArray × Int) :=
  if a1 < 1 ∨ 32 < a1 then some (⟨#[]⟩, 2) else if l.length ≤ 65536 ∧ ∀ s ∈ l, s.size ≤ 9223372036854775807 then some (B (Bloom.filter a1.toNat l), 0) else none
theorem bloom_Make.calls (A0 : Option Addr) (c0 : Nat) (l0 : List ByteArray) (a1 : Int) (r1 : ByteArray) (r2 : Int) (w : World) (hr0 : Kd.C Kd.string w A0 l0.length l0) (hc0 : l0.length ≤ c0) (h : bloom_Make.f l0 a1 = some (r1, r2)) :
    Calls Try.prog 10 #[.slice A0 l0.length c0, .int .i64 a1] w fun e w' => e = .returned (.tuple #[.string r1, .int .i64 r2]) ∧ Below w.heap.size w w' := by
  unfold bloom_Make.f at h
  split at h
  · rename_i hc
    simp only [Option.some.injEq, Prod.mk.injEq] at h
    obtain ⟨rfl, rfl⟩ := h
    exact Bloom.make_bad A0 c0 l0.length a1 hc w
  · rename_i hc
    split at h
    · rename_i hl
      simp only [Option.some.injEq, Prod.mk.injEq] at h
      obtain ⟨rfl, rfl⟩ := h
      obtain ⟨q, rfl⟩ : ∃ q : Nat, a1 = q := ⟨a1.toNat, by omega⟩
      exact Bloom.make_any A0 c0 l0 w hr0 hl.2 hl.1 q (by omega) (by omega)
    · cases h
def bloom_Has.f (a0 a1 : ByteArray) : Option Bool := if a1.size ≤ 9223372036854775807 then some (Bloom.has a0 a1) else none
theorem bloom_Has.calls (a0 a1 : ByteArray) (r : Bool) (w : World) (h : bloom_Has.f a0 a1 = some r) :
    Calls Try.prog 14 #[.string a0, .string a1] w fun e w' => e = .returned (.bool r) ∧ Below w.heap.size w w' := by
  unfold bloom_Has.f at h
  split at h
  · rename_i hc
    obtain rfl : Bloom.has a0 a1 = r := by simpa using h
    exact Bloom.has_any a0 a1 hc w
  · cases h
def bloom_Ones.f (a0 : ByteArray) : Option Int := some (Bloom.ones a0 : Int)
theorem bloom_Ones.calls (a0 : ByteArray) (r : Int) (w : World) (h : bloom_Ones.f a0 = some r) :
    Calls Try.prog 16 #[.string a0] w fun e w' => e = .returned (.int .i64 r) ∧ Below w.heap.size w w' := by
  obtain rfl : (Bloom.ones a0 : Int) = r := by simpa [bloom_Ones.f] using h
  exact Bloom.ones_any a0 w
end Go.Proofs.Ytdgfilbfkoeidaa.Print
