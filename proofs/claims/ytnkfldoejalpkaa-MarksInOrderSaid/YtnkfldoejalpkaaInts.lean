/- A slice of whole numbers that came in: how it lies. -/
import Derived.Test.YtnkfldoejalpkaaProg
import Derived.ChangeSlices
import Derived.WideShapes
import Derived.Below
import Derived.RowKit
namespace Go.Proofs.Ytnkfldoejalpkaa.Ints
open Go.RowKit Go.ChangeShapes Go.WideShapes
/-- whole numbers, in memory -/
def IntsAt (w : World) (k : IntKind) (a : Option Addr) (l : List Int) : Prop := ∀ (i : Nat) (h : i < l.length), (∃ ad, a = some ad ∧ w.cell? (ad.add i) = some (.int k l[i])) ∧ (Lit.int k l[i]).wf = true
theorem IntsAt.below {w w' : World} {k : IntKind} {a : Option Addr} {l : List Int} (h : IntsAt w k a l) (hb : Below w.heap.size w w') : IntsAt w' k a l := fun i hi => by
  obtain ⟨⟨ad, rfl, h0⟩, hw⟩ := h i hi
  exact ⟨⟨ad, rfl, (hb.cell (World.block_lt_of_cell? w _ h0)).trans h0⟩, hw⟩
theorem open_ints_ {H : Type} {enc : TypeId × Value → H} {P : Program} {w : World} {t e : TypeId} {k : IntKind} {a : Option Addr} {len cap : Nat} {d : DataW H} {p : List MemPlace} (ht : P.underlying t = some (.slice e)) (he : P.underlying e = some (.int k)) (hc : P.cellsOf e = 1)
    (h : DataW.Trod enc P w 0 (fun _ => true) true t (.slice a len cap) d p) : ∃ l : List Int, l.length = len ∧ len ≤ cap ∧ cap ≤ 9223372036854775807 ∧ IntsAt w k a l := by
  obtain ⟨fuel, hf⟩ := h
  rcases open_ints ht he hc hf with ⟨hcs, _⟩ | ⟨x, len', cap', zs, hcs, _, hl, hm, hlen, _, hcell, hwf⟩
  · simp [Value.cells] at hcs
    obtain ⟨rfl, rfl, rfl⟩ := hcs
    exact ⟨[], rfl, Nat.le_refl _, by omega, fun i hi => by cases hi⟩
  · simp [Value.cells] at hcs
    obtain ⟨rfl, rfl, rfl⟩ := hcs
    simp only [if_true] at hlen
    have hll : (zs.take len).length = len := by rw [List.length_take]; omega
    refine ⟨zs.take len, hll, hl, hm, fun i hi => ?_⟩
    have hz : i < zs.length := by omega
    refine ⟨⟨x, rfl, ?_⟩, hwf _ (List.mem_of_mem_take (List.getElem_mem hi))⟩
    rw [hcell i hz, List.getD_eq_getElem?_getD, List.getElem?_eq_getElem hz, List.getElem_take]
    rfl
end Go.Proofs.Ytnkfldoejalpkaa.Ints
