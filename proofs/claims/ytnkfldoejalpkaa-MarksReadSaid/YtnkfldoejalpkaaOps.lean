/- A slice of calls that came in, and one call: how they lie. -/
import Derived.Test.YtnkfldoejalpkaaProg
import Derived.Test.YtnkfldoejalpkaaPMarks
import Derived.Deep.Slices
import Derived.Deep.Fields
import Derived.ChangeSame
import Derived.WideShapes
import Derived.Below
import Derived.RowKit
namespace Go.Proofs.Ytnkfldoejalpkaa.Marks
open Go.RowKit Go.ChangeShapes Go.WideShapes Go.Deep PMarks
/-- calls, in memory -/
def OpsAt (w : World) (a : Option Addr) (l : List PMarks.Op) : Prop := ∀ (i : Nat) (h : i < l.length), ∃ ad, a = some ad ∧ w.cell? (ad.add (i * 3)) = some (.int .i64 l[i].do_) ∧ w.cell? ((ad.add (i * 3)).add 1) = some (.int .i64 l[i].src) ∧ w.cell? ((ad.add (i * 3)).add 2) = some (.int .i64 l[i].t)
theorem addr_block (ad : Addr) (i : Nat) : (ad.add i).block = ad.block := by unfold Addr.add; split <;> rfl
theorem add_zero_ (q : Addr) : q.add 0 = q := if_pos rfl
theorem OpsAt.below {w w' : World} {a : Option Addr} {l : List PMarks.Op} (h : OpsAt w a l) (hb : Below w.heap.size w w') : OpsAt w' a l := fun i hi => by
  obtain ⟨ad, rfl, h0, h1, h2⟩ := h i hi
  exact ⟨ad, rfl, (hb.cell (World.block_lt_of_cell? w _ h0)).trans h0, (hb.cell (World.block_lt_of_cell? w _ h1)).trans h1, (hb.cell (World.block_lt_of_cell? w _ h2)).trans h2⟩
theorem OpsAt.grown {w w' : World} {a : Option Addr} {l : List PMarks.Op} {b : Nat} (h : OpsAt w a l) (hg : w.grownBy w' (some b)) (hne : ∀ ad, a = some ad → 0 < l.length → ad.block ≠ b) : OpsAt w' a l := fun i hi => by
  obtain ⟨ad, rfl, h0, h1, h2⟩ := h i hi
  have hb := hg.block ad.block (by have := World.block_lt_of_cell? w _ h0; rw [addr_block] at this; exact this) (fun e => hne ad rfl (by omega) (by injection e))
  exact ⟨ad, rfl, (World.cell?_of_block (by rw [addr_block]; exact hb)).trans h0, (World.cell?_of_block (by rw [addr_block, addr_block]; exact hb)).trans h1, (World.cell?_of_block (by rw [addr_block, addr_block]; exact hb)).trans h2⟩
theorem OpsAt.lt {w : World} {a : Option Addr} {l : List PMarks.Op} (h : OpsAt w a l) : ∀ ad, a = some ad → 0 < l.length → ad.block < w.heap.size := by
  intro ad e hl
  obtain ⟨ad', e', h0, _⟩ := h 0 hl
  obtain rfl : ad = ad' := by rw [e] at e'; injection e'
  have := World.block_lt_of_cell? w _ h0
  rw [addr_block] at this
  exact this
section
variable {H : Type} {enc : TypeId × Value → H} {w : World} {base : Nat} {spare : Nat → Bool} {held : Bool}
theorem one_op {n : Nat} {cs : List Value} {x : DataW H × List MemPlace} (h : DataW.trod enc Try.prog w base spare held n 35 cs = some x) :
    ∃ o : PMarks.Op, cs = [.int .i64 o.do_, .int .i64 o.src, .int .i64 o.t] := by
  obtain ⟨xs, m, _, _, hl, hlen, hf⟩ := DataW.trod_struct Try.underlying35 h
  have hc : Try.prog.cellsOf 35 = 3 := by kernel_rfl
  have c1 : Try.prog.cellsOf 3 = 1 := by kernel_rfl
  have c2 : Try.prog.cellsOf 2 = 1 := by kernel_rfl
  rw [hc] at hl
  match cs, hl with
  | [v0, v1, v2], _ =>
    have f0 := hf 0 _ rfl
    have f1 := hf 1 _ rfl
    have f2 := hf 2 _ rfl
    have hx : ∀ i, i < 3 → ∃ y, xs[i]? = some y := fun i hi => ⟨xs[i]'(by rw [hlen]; exact hi), List.getElem?_eq_getElem _⟩
    obtain ⟨y0, e0⟩ := hx 0 (by omega)
    obtain ⟨y1, e1⟩ := hx 1 (by omega)
    obtain ⟨y2, e2⟩ := hx 2 (by omega)
    rw [e0] at f0
    rw [e1] at f1
    rw [e2] at f2
    change DataW.trod enc Try.prog w base spare held m 3 (([v0, v1, v2].drop 0).take (Try.prog.cellsOf 3)) = some y0 at f0
    change DataW.trod enc Try.prog w base spare held m 3 (([v0, v1, v2].drop 1).take (Try.prog.cellsOf 3)) = some y1 at f1
    change DataW.trod enc Try.prog w base spare held m 2 (([v0, v1, v2].drop 2).take (Try.prog.cellsOf 2)) = some y2 at f2
    rw [c1] at f0 f1
    rw [c2] at f2
    obtain ⟨z0, g0, _, _⟩ := DataW.trod_int Try.underlying3 f0
    obtain ⟨z1, g1, _, _⟩ := DataW.trod_int Try.underlying3 f1
    obtain ⟨z2, g2, _, _⟩ := DataW.trod_int Try.underlying2 f2
    simp at g0 g1 g2
    exact ⟨⟨z0, z1, z2⟩, by rw [g0, g1, g2]⟩
theorem open_ops {a : Option Addr} {len cap : Nat} {d : DataW H} {p : List MemPlace} (h : DataW.Trod enc Try.prog w 0 (fun _ => true) true 33 (.slice a len cap) d p) :
    ∃ l : List PMarks.Op, l.length = len ∧ len ≤ cap ∧ OpsAt w a l := by
  obtain ⟨fuel, hf⟩ := h
  have hc : Try.prog.cellsOf 35 = 3 := by kernel_rfl
  rcases open_slice Try.underlying33 hf with ⟨hcs, _⟩ | ⟨x, len', cap', m, n, D, Pl, hcs, _, hl, hm, hmm, _, hi⟩
  · simp [Value.cells] at hcs
    obtain ⟨rfl, rfl, rfl⟩ := hcs
    exact ⟨[], rfl, Nat.le_refl _, fun i hi => by cases hi⟩
  · simp [Value.cells] at hcs
    obtain ⟨rfl, rfl, rfl⟩ := hcs
    simp only [if_true] at hmm
    subst hmm
    rw [hc] at hi
    have key : ∀ i, i < len → ∃ o : PMarks.Op, w.cell? (x.add (i * 3)) = some (.int .i64 o.do_) ∧ w.cell? ((x.add (i * 3)).add 1) = some (.int .i64 o.src) ∧ w.cell? ((x.add (i * 3)).add 2) = some (.int .i64 o.t) := by
      intro i hlt
      obtain ⟨cs', hcc, htr⟩ := hi i (by omega)
      obtain ⟨o, rfl⟩ := one_op htr
      obtain ⟨_, _, hat⟩ := World.cells?_some hcc
      have h0 := hat 0 (by omega)
      rw [show ∀ q : Addr, q.add 0 = q from fun q => add_zero_ q] at h0
      exact ⟨o, h0, hat 1 (by omega), hat 2 (by omega)⟩
    refine ⟨(List.range len).attach.map (fun i => Classical.choose (key i.1 (List.mem_range.1 i.2))), by simp, hl, fun i hlt => ?_⟩
    have hlt2 : i < len := by simpa using hlt
    have hch := Classical.choose_spec (key i hlt2)
    refine ⟨x, rfl, ?_⟩
    simpa using hch
theorem open_op {r : Reach} {b0 : Nat} {v : Value} {d : DataW H} {p : List MemPlace} (hv : Value.okWide Try.prog w r b0 35 v) (h : DataW.Trod enc Try.prog w base spare held 35 v d p) :
    ∃ o : PMarks.Op, v = .agg #[.int .i64 o.do_, .int .i64 o.src, .int .i64 o.t] := by
  obtain ⟨cs, rfl, _⟩ := okWide_struct Try.underlying35 hv
  obtain ⟨fuel, hf⟩ := h
  obtain ⟨o, ho⟩ := one_op hf
  refine ⟨o, ?_⟩
  simp [Value.cells] at ho
  obtain ⟨l⟩ := cs
  simp at ho
  rw [ho]
end
end Go.Proofs.Ytnkfldoejalpkaa.Marks
