/- Bytes in memory, and a burst of bits laid on them. -/
import Derived.Test.YtdgfilbfkoeidaaProg
import Derived.Test.YtdgfilbfkoeidaaPCrc
import Derived.Test.YtdgfilbfkoeidaaAid
import Derived.Test.YtdgfilbfkoeidaaText
import Derived.WalkKit
import Derived.Lib.ConvBytes
import Derived.Laws.BytesArg
import Derived.Laws.BitsAllLaws
namespace Go.Proofs.Ytdgfilbfkoeidaa.Bits
open Go.RowKit Txt
theorem strOf_nums (a : List UInt8) : strOfNums (a.map fun c => (c.toNat : Int)) = B a := by
  unfold strOfNums
  rw [List.map_map]
  have : ((fun n : Int => UInt8.ofNat n.toNat) ∘ fun c : UInt8 => (c.toNat : Int)) = id := by funext c; simp
  rw [this, List.map_id]
/-- bytes, in memory -/
structure Bts (W : World) (g : Nat) (l : List UInt8) : Prop where
  cell : ∀ j, j < l.length → W.cell? ⟨g, j, none⟩ = some (.int .u8 (l.getD j 0).toNat)
  free : ∀ j, j < l.length → W.frozen? ⟨g, j, none⟩ = false
theorem Bts.conv (W : World) (F : ByteArray) : Bts (Lib.bytesWorld W 5 F) W.heap.size (L F) := by
  refine ⟨fun j hj => Lib.bytesWorld_cell W 5 F j (by rw [L_length] at hj; exact hj), fun j hj => ?_⟩
  rw [L_length] at hj
  simp only [World.frozen?, Lib.bytesWorld_at_new]
  have h1 : F.size ≤ (Lib.bytesCells W 5 F).size := by simp [Lib.bytesCells]
  simp only [Bool.and_eq_false_iff, decide_eq_false_iff_not]
  omega
theorem Bts.drew {W : World} {g : Nat} {l : List UInt8} (h : Bts W g l) : Bts W.drew g l := ⟨fun j hj => h.cell j hj, fun j hj => h.free j hj⟩
theorem Bts.put {W : World} {g : Nat} {l : List UInt8} (h : Bts W g l) (j : Nat) (hj : j < l.length) (b : UInt8) : Bts (W.setCell ⟨g, j, none⟩ (.int .u8 b.toNat)) g (l.set j b) := by
  refine ⟨fun i hi => ?_, fun i hi => (World.frozen?_setCell _ _ _ _).trans (h.free i (by simpa using hi))⟩
  by_cases e : i = j
  · subst e
    rw [World.cell?_setCell_same _ _ _ (h.cell i hj)]
    simp [hj]
  · rw [World.cell?_setCell_other _ _ _ _ (fun x => e (by injection x with _ x2; exact x2.symm)), h.cell i (by simpa using hi)]
    simp only [List.getD_eq_getElem?_getD, List.getElem?_set_ne (Ne.symm e)]
theorem Bts.text {W : World} {g : Nat} {l : List UInt8} (h : Bts W g l) {n : Nat} (hn : l.length = n) (cap : Nat) : (convert 32 9 (.slice (some ⟨g, 0, none⟩) n cap)).run Try.prog W = .ok (.string (B l)) W := by
  have h1 := run_convert_bytes_arg (P := Try.prog) W 32 5 Try.underlying32 Try.underlying5 g 0 n cap (l.map fun c => (c.toNat : Int)) (by simp; omega) (fun i hi => ?_) 9 Try.underlying9
  · rw [h1, strOf_nums]
  · have h2 := h.cell i (by omega)
    have h3 : i < l.length := by omega
    rw [Nat.zero_add, h2]
    simp only [List.getD_eq_getElem?_getD, List.getElem?_map, List.getElem?_eq_getElem h3, Option.map_some, Option.getD_some]
/-- the byte in which bit i of the burst stands -/
def spot (hd K i : Nat) : Nat := hd + (K + i) / 8
/-- the bit's number in its byte -/
def bitNo (K i : Nat) : Nat := (K + i) % 8
/-- the bytes when i bits of the burst are done -/
def flips (bits : Int) (hd K : Nat) (l : List UInt8) : Nat → List UInt8
  | 0 => l
  | i + 1 => if bits / 2 ^ i % 2 = 1 then (flips bits hd K l i).set (spot hd K i) ((flips bits hd K l i).getD (spot hd K i) 0 ^^^ PCrc.bit8 (bitNo K i)) else flips bits hd K l i
theorem flips_length (bits : Int) (hd K : Nat) (l : List UInt8) : ∀ i, (flips bits hd K l i).length = l.length
  | 0 => rfl
  | i + 1 => by
    unfold flips
    split
    · rw [List.length_set]; exact flips_length bits hd K l i
    · exact flips_length bits hd K l i
theorem ix_sum (K i : Nat) (h : K + i ≤ 9223372036854775807) : IntKind.i64.wrap ((K : Int) + (i : Int)) = (K : Int) + (i : Int) := by
  rw [IntKind.wrap_i64]; omega
theorem ix_spot (hd K i : Nat) (h : K + i ≤ 9223372036854775807) (h2 : hd ≤ 50000) : IntKind.i64.wrap ((hd : Int) + IntKind.i64.wrap (((K : Int) + (i : Int)).tdiv 8)) = ((spot hd K i : Nat) : Int) := by
  rw [IntKind.wrap_i64, IntKind.wrap_i64, Int.tdiv_eq_ediv_of_nonneg (by omega)]; unfold spot; omega
theorem ix_bit (K i : Nat) : ((K : Int) + (i : Int)).tmod 8 = ((bitNo K i : Nat) : Int) := by
  rw [Int.tmod_eq_emod_of_nonneg (by omega)]; unfold bitNo; omega
theorem ix_lt (K i : Nat) : bitNo K i < 8 := by unfold bitNo; omega
/-- what the walk reckons of a byte -/
theorem turned (b : UInt8) (s : Nat) (hs : s < 8) : bits .xor .u8 (b.toNat : Int) (IntKind.u8.wrap (2 ^ s)) = ((b ^^^ PCrc.bit8 s).toNat : Int) := by
  have e1 : IntKind.u8.wrap ((2 : Int) ^ s) = ((PCrc.bit8 s).toNat : Int) := by
    match s, hs with
    | 0, _ | 1, _ | 2, _ | 3, _ | 4, _ | 5, _ | 6, _ | 7, _ => rfl
  rw [e1, u8_xor_nat _ _ b.toNat_lt (PCrc.bit8 s).toNat_lt]
  simp
/-- what the walk asks of a bit -/
theorem asked (n : Int) (h0 : 0 ≤ n) (h1 : n ≤ 4294967295) (i : Nat) : bits .and .u32 (n / 2 ^ i) 1 = n / 2 ^ i % 2 := by
  obtain ⟨m, rfl⟩ : ∃ m : Nat, n = m := ⟨n.toNat, by omega⟩
  have e : ((m : Int) / 2 ^ i) = ((m / 2 ^ i : Nat) : Int) := by push_cast; rfl
  have h2 : m / 2 ^ i ≤ m := Nat.div_le_self _ _
  rw [e, show (1 : Int) = ((1 : Nat) : Int) from rfl, u32_and_nat _ _ (by omega) (by omega), Nat.and_one_is_mod]
  rfl
theorem flips_set {n : Int} (hd K : Nat) (l : List UInt8) (i : Nat) (h0 : 0 ≤ n) (h1 : n ≤ 4294967295) (h : (bits .and .u32 (n / 2 ^ i) 1 == 1) = true) :
    flips n hd K l (i + 1) = (flips n hd K l i).set (spot hd K i) ((flips n hd K l i).getD (spot hd K i) 0 ^^^ PCrc.bit8 (bitNo K i)) := by
  rw [asked n h0 h1] at h
  rw [flips, if_pos (by simpa using h)]
theorem flips_not {n : Int} (hd K : Nat) (l : List UInt8) (i : Nat) (h0 : 0 ≤ n) (h1 : n ≤ 4294967295) (h : (bits .and .u32 (n / 2 ^ i) 1 == 1) = false) :
    flips n hd K l (i + 1) = flips n hd K l i := by
  rw [asked n h0 h1] at h
  rw [flips, if_neg (by simpa using h)]
/-- a round in which the bit is one -/
theorem round_set {n : Int} {W : World} {g hd K : Nat} {l : List UInt8} {i : Nat} (h0 : 0 ≤ n) (h1 : n ≤ 4294967295) (h : (bits .and .u32 (n / 2 ^ i) 1 == 1) = true)
    (hB : Bts W g (flips n hd K l i)) (hl : spot hd K i < l.length) :
    Bts (W.setCell ⟨g, spot hd K i, none⟩ (.int .u8 (bits .xor .u8 ((flips n hd K l i)[spot hd K i]?.getD 0).toNat (IntKind.u8.wrap (2 ^ bitNo K i))))).drew g (flips n hd K l (i + 1)) := by
  rw [flips_set hd K l i h0 h1 h, turned _ _ (ix_lt K i), ← List.getD_eq_getElem?_getD]
  exact (hB.put _ (by rw [flips_length]; exact hl) _).drew
theorem round_set2 {n : Int} {W : World} {g hd K : Nat} {l : List UInt8} {i : Nat} (h0 : 0 ≤ n) (h1 : n ≤ 4294967295) (h : (bits .and .u32 (n / 2 ^ i) 1 == 1) = true)
    (hB : Bts W g (flips n hd K l i)) (hl : spot hd K i < l.length) :
    Bts (W.setCell ⟨g, spot hd K i, none⟩ (.int .u8 (bits .xor .u8 ((flips n hd K l i)[spot hd K i]?.getD 0).toNat (2 ^ bitNo K i % 256)))).drew g (flips n hd K l (i + 1)) := by
  have := round_set h0 h1 h hB hl
  rw [IntKind.wrap_u8] at this
  exact this
end Go.Proofs.Ytdgfilbfkoeidaa.Bits
