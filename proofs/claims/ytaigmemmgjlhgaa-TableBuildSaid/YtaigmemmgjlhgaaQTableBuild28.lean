/- Texts of this claim, joined by a program of this session (wip/pack.py): RowsIn, OptsIn. -/
import Derived.Deep.Slices
import Derived.Deep.Fields
import Derived.ChangeSame
import Derived.WideShapes
import Derived.Below
import Derived.RowKit
import Derived.ShutString
import Derived.SliceStrings
import Derived.Test.YtaigmemmgjlhgaaQTableBuild18
-- RowsIn
namespace Go.Proofs.Ytaigmemmgjlhgaa.Rw
open Go.RowKit Go.ChangeShapes Go.WideShapes Go.Deep Go.ChangeMaps Block Print Go.Proofs.YtaigmemmgjlhgaaW.PrintWords
section
variable {H : Type} {enc : TypeId × Value → H} {w : World} {base : Nat} {spare : Nat → Bool} {held : Bool}
theorem u64_wf {a : Int} (h : (Lit.int .u64 a).wf = true) : 0 ≤ a ∧ a < 18446744073709551616 := by
 obtain ⟨n, rfl, hn⟩ := u64_of h
 omega
set_option maxRecDepth 100000 in
theorem one_row {n : Nat} {cs : List Value} {x : DataW H × List MemPlace} (h : DataW.trod enc Try.prog w base spare held n 28 cs = some x) :
  ∃ o : S28, cs = [.string o.f0, .int .u64 o.f1, .int .i64 o.f2, .string o.f3] ∧ Fit o := by
 obtain ⟨xs, m, _, _, hl, hlen, hf⟩ := DataW.trod_struct Try.underlying28 h
 have hc : Try.prog.cellsOf 28 = 4 := by kernel_rfl
 have c1 : Try.prog.cellsOf 9 = 1 := by kernel_rfl
 have c2 : Try.prog.cellsOf 22 = 1 := by kernel_rfl
 have c3 : Try.prog.cellsOf 3 = 1 := by kernel_rfl
 rw [hc] at hl
 match cs, hl with
 | [v0, v1, v2, v3], _ =>
  have f0 := hf 0 _ rfl
  have f1 := hf 1 _ rfl
  have f2 := hf 2 _ rfl
  have f3 := hf 3 _ rfl
  have hx : ∀ i, i < 4 → ∃ y, xs[i]? = some y := fun i hi => ⟨xs[i]'(by rw [hlen]; exact hi), List.getElem?_eq_getElem _⟩
  obtain ⟨y0, e0⟩ := hx 0 (by omega)
  obtain ⟨y1, e1⟩ := hx 1 (by omega)
  obtain ⟨y2, e2⟩ := hx 2 (by omega)
  obtain ⟨y3, e3⟩ := hx 3 (by omega)
  rw [e0] at f0
  rw [e1] at f1
  rw [e2] at f2
  rw [e3] at f3
  change DataW.trod enc Try.prog w base spare held m 9 (([v0, v1, v2, v3].drop 0).take (Try.prog.cellsOf 9)) = some y0 at f0
  change DataW.trod enc Try.prog w base spare held m 22 (([v0, v1, v2, v3].drop 1).take (Try.prog.cellsOf 22)) = some y1 at f1
  change DataW.trod enc Try.prog w base spare held m 3 (([v0, v1, v2, v3].drop 2).take (Try.prog.cellsOf 3)) = some y2 at f2
  change DataW.trod enc Try.prog w base spare held m 9 (([v0, v1, v2, v3].drop 3).take (Try.prog.cellsOf 9)) = some y3 at f3
  rw [c1] at f0 f3
  rw [c2] at f1
  rw [c3] at f2
  obtain ⟨z0, g0, _, _⟩ := DataW.trod_string Try.underlying9 f0
  obtain ⟨z1, g1, _, w1⟩ := DataW.trod_int Try.underlying22 f1
  obtain ⟨z2, g2, _, _⟩ := DataW.trod_int Try.underlying3 f2
  obtain ⟨z3, g3, _, _⟩ := DataW.trod_string Try.underlying9 f3
  simp at g0 g1 g2 g3
  have hb := u64_wf w1
  exact ⟨⟨z0, z1, z2, z3⟩, by rw [g0, g1, g2, g3], ⟨hb.1, hb.2⟩⟩
theorem open_rows {a : Option Addr} {len cap : Nat} {d : DataW H} {p : List MemPlace} (h : DataW.Trod enc Try.prog w 0 (fun _ => true) true 32 (.slice a len cap) d p) :
  ∃ l : List S28, l.length = len ∧ len ≤ cap ∧ Kd.C k28 w a l.length l ∧ ∀ x ∈ l, Fit x := by
 obtain ⟨fuel, hf⟩ := h
 have hc : Try.prog.cellsOf 28 = 4 := by kernel_rfl
 have hml : maxLen = 9223372036854775807 := rfl
 rcases open_slice Try.underlying32 hf with ⟨hcs, _⟩ | ⟨x, len', cap', m, n, D, Pl, hcs, _, hl, hm, hmm, _, hi⟩
 ·simp [Value.cells] at hcs
  obtain ⟨rfl, rfl, rfl⟩ := hcs
  exact ⟨[], rfl, Nat.le_refl _, ⟨rfl, by simp, fun h => by simp at h⟩, fun _ h => by cases h⟩
 ·simp [Value.cells] at hcs
  obtain ⟨rfl, rfl, rfl⟩ := hcs
  simp only [if_true] at hmm
  subst hmm
  rw [hc] at hi
  have key : ∀ i, i < len → ∃ o : S28, Fit o ∧ ∀ j u, ([.string o.f0, .int .u64 o.f1, .int .i64 o.f2, .string o.f3] : List Value)[j]? = some u → w.cell? (x.add (i * 4 + j)) = some u := by
   intro i hlt
   obtain ⟨cs', hcc, htr⟩ := hi i (by omega)
   obtain ⟨o, rfl, hfit⟩ := one_row htr
   obtain ⟨_, _, hat⟩ := World.cells?_some hcc
   refine ⟨o, hfit, fun j u hj => ?_⟩
   have hj4 : j < 4 := (List.getElem?_eq_some_iff.1 hj).1
   have h0 := hat j hj4
   rw [show (x.add (i * 4)).add j = x.add (i * 4 + j) from Go.Deep.add_add _ _ _] at h0
   rw [h0]
   exact hj
  have hlen : ((List.range len).attach.map (fun i => Classical.choose (key i.1 (List.mem_range.1 i.2)))).length = len := by simp
  have hget : ∀ j (h : j < len), ((List.range len).attach.map (fun i => Classical.choose (key i.1 (List.mem_range.1 i.2))))[j]? = some (Classical.choose (key j h)) := by
   intro j h
   simp [h]
  generalize (List.range len).attach.map (fun i => Classical.choose (key i.1 (List.mem_range.1 i.2))) = l at hlen hget
  have hC : Kd.C k28 w (some x) l.length l := by
   refine ⟨rfl, by omega, fun _ => ⟨x, rfl, ?_⟩⟩
   intro j p hj
   have hlt : j < len := by rw [← hlen]; exact (List.getElem?_eq_some_iff.1 hj).1
   have hp : p = Classical.choose (key j hlt) := by
    have := hget j hlt
    rw [hj] at this
    injection this
   have hch := Classical.choose_spec (key j hlt)
   rw [← hp] at hch
   exact ⟨[.string p.f0, .int .u64 p.f1, .int .i64 p.f2, .string p.f3], rfl, k28_mk w p, hch.2⟩
  refine ⟨l, hlen, hl, hC, fun o ho => ?_⟩
  obtain ⟨j, hj⟩ := List.getElem?_of_mem ho
  have hlt : j < len := by rw [← hlen]; exact (List.getElem?_eq_some_iff.1 hj).1
  have := hget j hlt
  rw [hj] at this
  injection this with hp
  rw [hp]
  exact (Classical.choose_spec (key j hlt)).1
end
end Go.Proofs.Ytaigmemmgjlhgaa.Rw
-- OptsIn
namespace Go.Proofs.Ytaigmemmgjlhgaa.Rw
open Go.RowKit Go.ChangeShapes Go.WideShapes Go.Deep Go.ChangeMaps Block Print Go.Proofs.YtaigmemmgjlhgaaW.PrintWords
section
variable {H : Type} {enc : TypeId × Value → H} {w : World} {base : Nat} {spare : Nat → Bool} {held : Bool}
set_option maxRecDepth 100000 in
theorem one_opts {n : Nat} {cs : List Value} {x : DataW H × List MemPlace} (h : DataW.trod enc Try.prog w base spare held n 41 cs = some x) :
  ∃ B R Q : Int, cs = [.int .i64 B, .int .i64 R, .int .i64 Q] := by
 obtain ⟨xs, m, _, _, hl, hlen, hf⟩ := DataW.trod_struct Try.underlying41 h
 have hc : Try.prog.cellsOf 41 = 3 := by kernel_rfl
 have c3 : Try.prog.cellsOf 3 = 1 := by kernel_rfl
 rw [hc] at hl
 match cs, hl with
 | [v0, v1, v2], _ =>
  have f0 := hf 0 _ rfl
  have f1 := hf 1 _ rfl
  have f2 := hf 2 _ rfl
  have hx : ∀ i, i < 3 → ∃ y, xs[i]? = some y := fun i hi => ⟨xs[i]'(by rw [hlen]; exact hi), List.getElem?_eq_getElem _⟩
  obtain ⟨y0, e0⟩ := hx 0 (by omega)
  obtain ⟨y1, e1⟩ := hx 1 (by omega)
  obtain ⟨y2, e2⟩ := hx 2 (by omega)
  rw [e0] at f0
  rw [e1] at f1
  rw [e2] at f2
  change DataW.trod enc Try.prog w base spare held m 3 (([v0, v1, v2].drop 0).take (Try.prog.cellsOf 3)) = some y0 at f0
  change DataW.trod enc Try.prog w base spare held m 3 (([v0, v1, v2].drop 1).take (Try.prog.cellsOf 3)) = some y1 at f1
  change DataW.trod enc Try.prog w base spare held m 3 (([v0, v1, v2].drop 2).take (Try.prog.cellsOf 3)) = some y2 at f2
  rw [c3] at f0 f1 f2
  obtain ⟨z0, g0, _, _⟩ := DataW.trod_int Try.underlying3 f0
  obtain ⟨z1, g1, _, _⟩ := DataW.trod_int Try.underlying3 f1
  obtain ⟨z2, g2, _, _⟩ := DataW.trod_int Try.underlying3 f2
  simp at g0 g1 g2
  exact ⟨z0, z1, z2, by rw [g0, g1, g2]⟩
set_option maxRecDepth 100000 in
theorem open_opts {r : Reach} {b0 : Nat} {v : Value} {d : DataW H} {p : List MemPlace} (hv : Value.okWide Try.prog w r b0 41 v) (h : DataW.Trod enc Try.prog w base spare held 41 v d p) :
  ∃ B R Q : Int, v = .agg #[.int .i64 B, .int .i64 R, .int .i64 Q] := by
 obtain ⟨cs, rfl, _⟩ := okWide_struct Try.underlying41 hv
 obtain ⟨fuel, hf⟩ := h
 obtain ⟨B, R, Q, ho⟩ := one_opts hf
 refine ⟨B, R, Q, ?_⟩
 simp [Value.cells] at ho
 obtain ⟨l⟩ := cs
 simp at ho
 rw [ho]
end
end Go.Proofs.Ytaigmemmgjlhgaa.Rw
