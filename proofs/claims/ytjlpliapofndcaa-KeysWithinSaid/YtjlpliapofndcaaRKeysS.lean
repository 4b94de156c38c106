/- Keys: whether two have the same first parts, as the laws ask, is the plain one. -/
import Derived.Test.YtjlpliapofndcaaRKeys
import Derived.Test.YtjlpliapofndcaaPKeysT
import Derived.Test.YtjlpliapofndcaaLess
import Derived.Test.YtjlpliapofndcaaPrint12
namespace Go.Proofs.Ytjlpliapofndcaa.Print
open Go.RowKit Txt Go.Proofs.YtjlpliapofndcaaW.PrintWords
set_option maxHeartbeats 2000000 in
theorem same_f (s0 g0 : Int) (k0 t0 u0 : ByteArray) (s1 g1 : Int) (k1 t1 u1 : ByteArray) (p : Int) : freshetlaw03_same.f s0 g0 k0 t0 u0 s1 g1 k1 t1 u1 p = some (PKeysT.sameParts (kOf s0 g0 k0 t0 u0) (kOf s1 g1 k1 t1 u1) p) := by
  unfold freshetlaw03_same.f PKeysT.sameParts kOf
  simp only [L_toList]
  generalize L k0 = x0
  generalize L k1 = x1
  generalize L t0 = y0
  generalize L t1 = y1
  by_cases h1 : s0 = s1 <;> by_cases h2 : g0 = g1 <;> by_cases p2 : p < 2 <;> by_cases p3 : p < 3 <;> by_cases p4 : p < 4 <;> by_cases h3 : x0 = x1 <;> simp [h1, h2, h3, p2, p3, p4]
theorem same_ev (s0 g0 : Int) (k0 t0 u0 : ByteArray) (s1 g1 : Int) (k1 t1 u1 : ByteArray) (p : Int) (b : Bool) (h : PKeysT.sameParts (kOf s0 g0 k0 t0 u0) (kOf s1 g1 k1 t1 u1) p = b) : Ev (fun _ : Nat => freshetlaw03_same.f s0 g0 k0 t0 u0 s1 g1 k1 t1 u1 p) b := by
  rw [same_f, h]
  exact Ev.now _
theorem range_ev {s0 g0 : Int} {k0 t0 u0 : ByteArray} {p : Int} (hp : (Lit.int .i64 p).wf = true) : Ev (fun _ : Nat => keys_Range.f s0 g0 k0 t0 u0 p) (B (PKeys.range (kOf s0 g0 k0 t0 u0) p).1, B (PKeys.range (kOf s0 g0 k0 t0 u0) p).2.1, ((PKeys.range (kOf s0 g0 k0 t0 u0) p).2.2 : Int)) := by
  rw [keys_range hp]
  exact Ev.now _
end Go.Proofs.Ytjlpliapofndcaa.Print
