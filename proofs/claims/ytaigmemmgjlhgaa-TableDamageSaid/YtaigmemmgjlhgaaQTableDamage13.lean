/- Texts of this claim, joined by a program of this session (wip/pack.py): Bits, PBurst. -/
import Derived.Test.YtaigmemmgjlhgaaProg
import Derived.WalkKit
import Derived.Lib.ConvBytes
import Derived.Laws.BytesArg
import Derived.Laws.BitsAllLaws
import Derived.Test.YtaigmemmgjlhgaaQTableDamage3
import Derived.Test.YtaigmemmgjlhgaaQTableDamage5
import Derived.Test.YtaigmemmgjlhgaaQTableDamage10
-- Bits
namespace Go.Proofs.Ytaigmemmgjlhgaa.Bits
open Go.RowKit Txt
theorem strOf_nums (a : List UInt8) : strOfNums (a.map fun c => (c.toNat : Int)) = B a := by
 unfold strOfNums
 rw [List.map_map]
 have : ((fun n : Int => UInt8.ofNat n.toNat) ∘ fun c : UInt8 => (c.toNat : Int)) = id := by funext c; simp
 rw [this, List.map_id]
structure Bts (W : World) (g : Nat) (l : List UInt8) : Prop where
 cell : ∀ j, j < l.length → W.cell? ⟨g, j, none⟩ = some (.int .u8 (l.getD j 0).toNat)
 free : ∀ j, j < l.length → W.frozen? ⟨g, j, none⟩ = false
theorem Bts.conv (W : World) (F : ByteArray) : Bts (Lib.bytesWorld W 5 F) W.heap.size (L F) := by
 refine ⟨fun j hj => Lib.bytesWorld_cell W 5 F j (by rw [q0i] at hj; exact hj), fun j hj => ?_⟩
 rw [q0i] at hj
 simp only [World.frozen?, Lib.bytesWorld_at_new]
 have h1 : F.size ≤ (Lib.bytesCells W 5 F).size := by simp [Lib.bytesCells]
 simp only [Bool.and_eq_false_iff, decide_eq_false_iff_not]
 omega
theorem Bts.drew {W : World} {g : Nat} {l : List UInt8} (h : Bts W g l) : Bts W.drew g l := ⟨fun j hj => h.cell j hj, fun j hj => h.free j hj⟩
theorem Bts.put {W : World} {g : Nat} {l : List UInt8} (h : Bts W g l) (j : Nat) (hj : j < l.length) (b : UInt8) : Bts (W.setCell ⟨g, j, none⟩ (.int .u8 b.toNat)) g (l.set j b) := by
 refine ⟨fun i hi => ?_, fun i hi => (World.frozen?_setCell _ _ _ _).trans (h.free i (by simpa using hi))⟩
 by_cases e : i = j
 ·subst e
  rw [World.cell?_setCell_same _ _ _ (h.cell i hj)]
  simp [hj]
 ·rw [World.cell?_setCell_other _ _ _ _ (fun x => e (by injection x with _ x2; exact x2.symm)), h.cell i (by simpa using hi)]
  simp only [List.getD_eq_getElem?_getD, List.getElem?_set_ne (Ne.symm e)]
theorem Bts.text {W : World} {g : Nat} {l : List UInt8} (h : Bts W g l) {n : Nat} (hn : l.length = n) (cap : Nat) : (convert 55 9 (.slice (some ⟨g, 0, none⟩) n cap)).run Try.prog W = .ok (.string (B l)) W := by
 have h1 := run_convert_bytes_arg (P := Try.prog) W 55 5 Try.underlying55 Try.underlying5 g 0 n cap (l.map fun c => (c.toNat : Int)) (by simp; omega) (fun i hi => ?_) 9 Try.underlying9
 ·rw [h1, strOf_nums]
 ·have h2 := h.cell i (by omega)
  have h3 : i < l.length := by omega
  rw [Nat.zero_add, h2]
  simp only [List.getD_eq_getElem?_getD, List.getElem?_map, List.getElem?_eq_getElem h3, Option.map_some, Option.getD_some]
def spot (hd K i : Nat) : Nat := hd + (K + i) / 8
def bitNo (K i : Nat) : Nat := (K + i) % 8
def flips (bits : Int) (hd K : Nat) (l : List UInt8) : Nat → List UInt8
 | 0 => l
 | i + 1 => if bits / 2 ^ i % 2 = 1 then (flips bits hd K l i).set (spot hd K i) ((flips bits hd K l i).getD (spot hd K i) 0 ^^^ PCrc.bit8 (bitNo K i)) else flips bits hd K l i
theorem q12 (bits : Int) (hd K : Nat) (l : List UInt8) : ∀ i, (flips bits hd K l i).length = l.length
 | 0 => rfl
 | i + 1 => by
  unfold flips
  split
  ·rw [List.length_set]; exact q12 bits hd K l i
  ·exact q12 bits hd K l i
theorem ix_sum (K i : Nat) (h : K + i ≤ 9223372036854775807) : IntKind.i64.wrap ((K : Int) + (i : Int)) = (K : Int) + (i : Int) := by
 rw [IntKind.wrap_i64]; omega
theorem ix_bit (K i : Nat) : ((K : Int) + (i : Int)).tmod 8 = ((bitNo K i : Nat) : Int) := by
 rw [Int.tmod_eq_emod_of_nonneg (by omega)]; unfold bitNo; omega
theorem ix_lt (K i : Nat) : bitNo K i < 8 := by unfold bitNo; omega
theorem turned (b : UInt8) (s : Nat) (hs : s < 8) : bits .xor .u8 (b.toNat : Int) (IntKind.u8.wrap (2 ^ s)) = ((b ^^^ PCrc.bit8 s).toNat : Int) := by
 have e1 : IntKind.u8.wrap ((2 : Int) ^ s) = ((PCrc.bit8 s).toNat : Int) := by
  match s, hs with
  | 0, _ | 1, _ | 2, _ | 3, _ | 4, _ | 5, _ | 6, _ | 7, _ => rfl
 rw [e1, u8_xor_nat _ _ b.toNat_lt (PCrc.bit8 s).toNat_lt]
 simp
theorem asked (n : Int) (h0 : 0 ≤ n) (h1 : n ≤ 4294967295) (i : Nat) : bits .and .u32 (n / 2 ^ i) 1 = n / 2 ^ i % 2 := by
 obtain ⟨m, rfl⟩ : ∃ m : Nat, n = m := ⟨n.toNat, by omega⟩
 have e : ((m : Int) / 2 ^ i) = ((m / 2 ^ i : Nat) : Int) := by push_cast; rfl
 have h2 : m / 2 ^ i ≤ m := Nat.div_le_self _ _
 rw [e, show (1 : Int) = ((1 : Nat) : Int) from rfl, u32_and_nat _ _ (by omega) (by omega), Nat.and_one_is_mod]
 rfl
theorem flips_set {n : Int} (hd K : Nat) (l : List UInt8) (i : Nat) (h0 : 0 ≤ n) (h1 : n ≤ 4294967295) (h : (bits .and .u32 (n / 2 ^ i) 1 == 1) = true) :
  flips n hd K l (i + 1) = (flips n hd K l i).set (spot hd K i) ((flips n hd K l i).getD (spot hd K i) 0 ^^^ PCrc.bit8 (bitNo K i)) := by
 rw [asked n h0 h1] at h
 rw [flips, if_pos (by simpa using h)]
theorem flips_not {n : Int} (hd K : Nat) (l : List UInt8) (i : Nat) (h0 : 0 ≤ n) (h1 : n ≤ 4294967295) (h : (bits .and .u32 (n / 2 ^ i) 1 == 1) = false) :
  flips n hd K l (i + 1) = flips n hd K l i := by
 rw [asked n h0 h1] at h
 rw [flips, if_neg (by simpa using h)]
theorem round_set {n : Int} {W : World} {g hd K : Nat} {l : List UInt8} {i : Nat} (h0 : 0 ≤ n) (h1 : n ≤ 4294967295) (h : (bits .and .u32 (n / 2 ^ i) 1 == 1) = true)
  (hB : Bts W g (flips n hd K l i)) (hl : spot hd K i < l.length) :
  Bts (W.setCell ⟨g, spot hd K i, none⟩ (.int .u8 (bits .xor .u8 ((flips n hd K l i)[spot hd K i]?.getD 0).toNat (IntKind.u8.wrap (2 ^ bitNo K i))))).drew g (flips n hd K l (i + 1)) := by
 rw [flips_set hd K l i h0 h1 h, turned _ _ (ix_lt K i), ← List.getD_eq_getElem?_getD]
 exact (hB.put _ (by rw [q12]; exact hl) _).drew
end Go.Proofs.Ytaigmemmgjlhgaa.Bits
-- PBurst
namespace Go.Proofs.Ytaigmemmgjlhgaa.Bits
open Txt
theorem bit_of (b : BitVec 32) (i : Nat) : ((b.toNat : Int) / 2 ^ i % 2 = 1) ↔ b.getLsbD i = true := by
 rw [← BitVec.testBit_toNat, Nat.testBit_eq_decide_div_mod_eq, decide_eq_true_eq]
 have e : ((b.toNat : Int) / 2 ^ i % 2) = ((b.toNat / 2 ^ i % 2 : Nat) : Int) := by push_cast; rfl
 rw [e]
 omega
theorem fold_flips (b : BitVec 32) (r : BitVec 32) (l : List UInt8) (hd K : Nat) (h : 8 * hd + K + 32 ≤ 8 * l.length) : ∀ i, i ≤ 32 →
  PCrc.fold r (flips (b.toNat : Int) hd K l i) = PCrc.fold r l ^^^ PCrc.zs (8 * l.length - (8 * hd + K)) (PCrc.low b i)
 | 0, _ => by rw [flips, PCrc.low_zero, PCrc.zs_zero]; exact BitVec.xor_zero.symm
 | i + 1, hi => by
  have ih := fold_flips b r l hd K h i (by omega)
  rw [flips]
  by_cases c : b.getLsbD i = true
  ·rw [if_pos ((bit_of b i).2 c)]
   have hs : spot hd K i < (flips (b.toNat : Int) hd K l i).length := by rw [q12]; unfold spot; omega
   rw [PCrc.fold_flip r _ _ _ hs (ix_lt K i), ih, PCrc.low_succ_one b i (by omega) c, PCrc.zs_xor, PCrc.zs_shl_at _ i (by omega) (by omega), q12, BitVec.xor_assoc]
   congr 3
   unfold spot bitNo; omega
  ·rw [if_neg (fun e => c ((bit_of b i).1 e)), ih, PCrc.low_succ_none b i (by simpa using c)]
theorem fold_burst (b : BitVec 32) (hb : b ≠ 0) (r : BitVec 32) (l : List UInt8) (hd K : Nat) (h : 8 * hd + K + 32 ≤ 8 * l.length) :
  PCrc.fold r (flips (b.toNat : Int) hd K l 32) ≠ PCrc.fold r l := by
 intro e
 rw [fold_flips b r l hd K h 32 (by omega), PCrc.low_all] at e
 have e2 : PCrc.zs (8 * l.length - (8 * hd + K)) b = 0 := by
  have := congrArg (PCrc.fold r l ^^^ ·) e
  simpa [← BitVec.xor_assoc] using this
 exact hb (PCrc.zs_eq_zero _ e2)
theorem flips_take (n : Int) (hd K : Nat) (l : List UInt8) : ∀ i, (flips n hd K l i).take hd = l.take hd
 | 0 => rfl
 | i + 1 => by
  rw [flips]
  split
  ·rw [List.take_set_of_le (by unfold spot; omega)]; exact flips_take n hd K l i
  ·exact flips_take n hd K l i
end Go.Proofs.Ytaigmemmgjlhgaa.Bits
