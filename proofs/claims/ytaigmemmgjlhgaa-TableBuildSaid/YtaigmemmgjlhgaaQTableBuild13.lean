/- Texts of this claim, joined by a program of this session (wip/pack.py): Bits. -/
import Derived.Test.YtaigmemmgjlhgaaProg
import Derived.WalkKit
import Derived.Lib.ConvBytes
import Derived.Laws.BytesArg
import Derived.Laws.BitsAllLaws
import Derived.Test.YtaigmemmgjlhgaaQTableBuild3
import Derived.Test.YtaigmemmgjlhgaaQTableBuild5
import Derived.Test.YtaigmemmgjlhgaaQTableBuild10
-- Bits
namespace Go.Proofs.Ytaigmemmgjlhgaa.Bits
open Go.RowKit Txt
theorem strOf_nums (a : List UInt8) : strOfNums (a.map fun c => (c.toNat : Int)) = B a := by
 unfold strOfNums
 rw [List.map_map]
 have : ((fun n : Int => UInt8.ofNat n.toNat) ∘ fun c : UInt8 => (c.toNat : Int)) = id := by funext c; simp
 rw [this, List.map_id]
structure Bts (W : World) (g : Nat) (l : List UInt8) : Prop where
 cell : ∀ j, j < l.length → W.cell? ⟨g, j, none⟩ = some (.int .u8 (l.getD j 0).toNat)
 free : ∀ j, j < l.length → W.frozen? ⟨g, j, none⟩ = false
theorem Bts.conv (W : World) (F : ByteArray) : Bts (Lib.bytesWorld W 5 F) W.heap.size (L F) := by
 refine ⟨fun j hj => Lib.bytesWorld_cell W 5 F j (by rw [q0g] at hj; exact hj), fun j hj => ?_⟩
 rw [q0g] at hj
 simp only [World.frozen?, Lib.bytesWorld_at_new]
 have h1 : F.size ≤ (Lib.bytesCells W 5 F).size := by simp [Lib.bytesCells]
 simp only [Bool.and_eq_false_iff, decide_eq_false_iff_not]
 omega
theorem Bts.drew {W : World} {g : Nat} {l : List UInt8} (h : Bts W g l) : Bts W.drew g l := ⟨fun j hj => h.cell j hj, fun j hj => h.free j hj⟩
theorem Bts.put {W : World} {g : Nat} {l : List UInt8} (h : Bts W g l) (j : Nat) (hj : j < l.length) (b : UInt8) : Bts (W.setCell ⟨g, j, none⟩ (.int .u8 b.toNat)) g (l.set j b) := by
 refine ⟨fun i hi => ?_, fun i hi => (World.frozen?_setCell _ _ _ _).trans (h.free i (by simpa using hi))⟩
 by_cases e : i = j
 ·subst e
  rw [World.cell?_setCell_same _ _ _ (h.cell i hj)]
  simp [hj]
 ·rw [World.cell?_setCell_other _ _ _ _ (fun x => e (by injection x with _ x2; exact x2.symm)), h.cell i (by simpa using hi)]
  simp only [List.getD_eq_getElem?_getD, List.getElem?_set_ne (Ne.symm e)]
theorem Bts.text {W : World} {g : Nat} {l : List UInt8} (h : Bts W g l) {n : Nat} (hn : l.length = n) (cap : Nat) : (convert 55 9 (.slice (some ⟨g, 0, none⟩) n cap)).run Try.prog W = .ok (.string (B l)) W := by
 have h1 := run_convert_bytes_arg (P := Try.prog) W 55 5 Try.underlying55 Try.underlying5 g 0 n cap (l.map fun c => (c.toNat : Int)) (by simp; omega) (fun i hi => ?_) 9 Try.underlying9
 ·rw [h1, strOf_nums]
 ·have h2 := h.cell i (by omega)
  have h3 : i < l.length := by omega
  rw [Nat.zero_add, h2]
  simp only [List.getD_eq_getElem?_getD, List.getElem?_map, List.getElem?_eq_getElem h3, Option.map_some, Option.getD_some]
end Go.Proofs.Ytaigmemmgjlhgaa.Bits
