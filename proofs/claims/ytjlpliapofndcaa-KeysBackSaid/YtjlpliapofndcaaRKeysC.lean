/- Keys: what holds two keys against each other, as printed, is the plain one. -/
import Derived.Test.YtjlpliapofndcaaRKeys
import Derived.Test.YtjlpliapofndcaaPrint18
import Derived.Test.YtjlpliapofndcaaPrint17
import Derived.Test.YtjlpliapofndcaaPrint17
namespace Go.Proofs.Ytjlpliapofndcaa.Print
open Go.RowKit Txt Go.Proofs.YtjlpliapofndcaaW.PrintWords
theorem first_int (c a b : Int) : keys_first_int.f c a b = some (PKeys.thenC c (PKeys.cmpI a b)) := by
  unfold keys_first_int.f cmp_Compare_int.f cmp_isNaN_int.f PKeys.thenC PKeys.cmpI
  by_cases h0 : c = 0 <;> by_cases h1 : a < b <;> by_cases h2 : b < a <;> simp [h0, h1, h2]
theorem first_string (c : Int) (a b : ByteArray) : keys_first_string.f c a b = some (PKeys.thenC c (PKeys.cmpT (L a) (L b))) := by
  unfold keys_first_string.f cmp_Compare_string.f cmp_isNaN_string.f PKeys.thenC PKeys.cmpT
  by_cases h0 : c = 0 <;> by_cases h1 : Op.bytesLess (L a) (L b) = true <;> by_cases h2 : Op.bytesLess (L b) (L a) = true <;> simp [h0, h1, h2, L_toList]
theorem keys_cmp (s0 g0 : Int) (k0 t0 u0 : ByteArray) (s1 g1 : Int) (k1 t1 u1 : ByteArray) : keys_Cmp.f s0 g0 k0 t0 u0 s1 g1 k1 t1 u1 = some (PKeys.cmp (kOf s0 g0 k0 t0 u0) (kOf s1 g1 k1 t1 u1)) := by
  unfold keys_Cmp.f
  rw [first_int]
  simp only [Option.bind_some]
  rw [first_int]
  simp only [Option.bind_some]
  rw [first_string]
  simp only [Option.bind_some]
  rw [first_string]
  simp only [Option.bind_some]
  rw [first_string]
  simp only [Option.bind_some]
  rfl
theorem kOf_eq {s0 g0 : Int} {k0 t0 u0 : ByteArray} {s1 g1 : Int} {k1 t1 u1 : ByteArray} : kOf s0 g0 k0 t0 u0 = kOf s1 g1 k1 t1 u1 ↔ s0 = s1 ∧ g0 = g1 ∧ L k0 = L k1 ∧ L t0 = L t1 ∧ L u0 = L u1 := by
  unfold kOf
  simp only [PKeys.K.mk.injEq]
end Go.Proofs.Ytjlpliapofndcaa.Print
