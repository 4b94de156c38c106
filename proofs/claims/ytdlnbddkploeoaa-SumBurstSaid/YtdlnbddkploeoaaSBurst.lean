/- The walk of the law SumBurst. -/
import Derived.Test.YtdlnbddkploeoaaPSum
import Derived.Test.YtdlnbddkploeoaaPBurst
import Derived.Test.YtdlnbddkploeoaaPrint1
import Derived.Lib.SmallJoins
import Derived.LoopTactic
namespace Go.Proofs.Ytdlnbddkploeoaa.SBurst
open Go.RowKit Txt Bits
theorem awake_any (w : World) : Calls Try.prog 15 #[] w fun e w' => e = .returned (.bool true) ∧ Below w.heap.size w w' := by
  obtain ⟨K, h⟩ := Print.awake01
  exact Print.freshetlaw01_awake.calls K true w (h K (Nat.le_refl _))
theorem ix_spot0 (K i : Nat) (h : K + i ≤ 9223372036854775807) : IntKind.i64.wrap (((K : Int) + (i : Int)).tdiv 8) = ((spot 0 K i : Nat) : Int) := by
  rw [IntKind.wrap_i64, Int.tdiv_eq_ediv_of_nonneg (by omega)]; unfold spot; omega
set_option maxRecDepth 100000 in
set_option maxHeartbeats 4000000 in
theorem burst_1 (p : ByteArray) (at_ : Int) (bits : Int) (hp : 5 ≤ p.size) (hp2 : p.size ≤ 140737488351232) (hb : (bits == 0) = false) (hn0 : 0 ≤ bits) (hn1 : bits ≤ 4294967295) (w : World) (K : Nat) (X Y : Int) (hXY : (Y != X) = true)
    (hof : ∀ w, Calls Try.prog 11 #[.string p] w fun e w' => e = .returned (.int .u32 X) ∧ Below w.heap.size w w')
    (hof2 : ∀ w, Calls Try.prog 11 #[.string (B (flips bits 0 K (L p) 32))] w fun e w' => e = .returned (.int .u32 Y) ∧ Below w.heap.size w w')
    (hat : at_ < 0) (hK : (K : Int) = (p.size : Int) * 8 - 32) :
    Calls Try.prog 6 #[.string p, .int .i64 at_, .int .u32 bits] w fun e w' => e = .returned (.bool true) ∧ Below w.heap.size w w' := by
  have HA := Lib.hid awake_any
  have HP := Lib.hid hof
  clear hof
  have HG := Lib.hid hof2
  clear hof2
  have kb := fun (F : ByteArray) (W : World) => Lib.run_convert_string_bytes (P := Try.prog) W 9 29 5 F Try.underlying9 Try.underlying29 Try.underlying5
  have c1 : ¬ (p.size : Int) < 5 := by omega
  have HK := Lib.hid hK
  clear hK
  go_enter Try.func6, Try.ntmps6
  go_wp2_with fail
  rw [← HK.out]
  have hB0 := Bts.conv w p
  have hW0 : Below w.heap.size w (Lib.bytesWorld w 5 p) := Go.Joins.below_bytesWorld _ w 5 p (Nat.le_refl _)
  generalize grownCap w p.size 0 5 = cap
  generalize Lib.bytesWorld w 5 p = W0 at hB0 hW0 ⊢
  have k3 : (K : Int) ≤ 2000000000000000 := by have := HK.out; omega
  try clear hat2
  try clear hat
  go_loopw [10] (fun v10 wr => ∃ i : Nat, i ≤ 32 ∧ v10 = .int .i64 i ∧ Bts wr w.heap.size (flips bits 0 K (L p) i) ∧ Below w.heap.size w wr) (fun v10 _ => 32 - (intOf v10).toNat)
  case atStart => exact ⟨0, by omega, rfl, hB0, hW0⟩
  case round =>
    obtain ⟨i, hi, rfl, hB, hW⟩ := hrel
    by_cases hi2 : i < 32
    · have t1 : ((i : Int) < 32) = True := eq_true (by omega)
      have t2 : (0 : Int) ≤ (i : Int) := by omega
      have l1 : spot 0 K i < p.size := by have := HK.out; unfold spot; omega
      have gc := hB.cell (spot 0 K i) (by rw [flips_length, L_length]; exact l1)
      have gf := hB.free (spot 0 K i) (by rw [flips_length, L_length]; exact l1)
      have e0 := ix_sum K i (by omega)
      have e1 := ix_spot0 K i (by omega)
      have e2 := ix_bit K i
      have e3 := ix_lt K i
      go_wp2_with fail
      · have hbit : (Go.bits .and .u32 (bits / 2 ^ i) 1 == 1) = true := by assumption
        go_region
        have hB2 := round_set2 hn0 hn1 hbit hB (by rw [L_length]; exact l1)
        have hW2 := (hW.setCell (p := ⟨w.heap.size, spot 0 K i, none⟩) (Nat.le_refl _) (.int .u8 (Go.bits .xor .u8 ((flips bits 0 K (L p) i)[spot 0 K i]?.getD 0).toNat (2 ^ bitNo K i % 256)))).drew
        generalize (wr.setCell ⟨w.heap.size, spot 0 K i, none⟩ (.int .u8 (Go.bits .xor .u8 ((flips bits 0 K (L p) i)[spot 0 K i]?.getD 0).toNat (2 ^ bitNo K i % 256)))).drew = W2 at hB2 hW2 ⊢
        clear e0 e1 e2 e3 gc gf
        go_wp2_with fail
        go_roundw
        case rel => exact ⟨i + 1, by omega, by go_num, hB2, hW2⟩
        case measure => simp [intOf]; omega
      · have hbit : (Go.bits .and .u32 (bits / 2 ^ i) 1 == 1) = false := by first | assumption | (simp; assumption)
        have hB2 := flips_not 0 K (L p) i hn0 hn1 hbit
        rw [← hB2] at hB
        go_roundw
        case rel => exact ⟨i + 1, by omega, by go_num, hB, hW⟩
        case measure => simp [intOf]; omega
    · have t1 : ((i : Int) < 32) = False := eq_false (by omega)
      obtain rfl : i = 32 := by omega
      have kt := hB.text (n := p.size) (by rw [flips_length, L_length]) cap
      go_wp2_with fail
      refine (HG.out _).mono ?_
      rintro e w2 ⟨rfl, hb2⟩
      go_wp2_with fail
      refine (HP.out _).mono ?_
      rintro e w3 ⟨rfl, hb3⟩
      go_wp2_with fail
      refine (HA.out _).mono ?_
      rintro e w4 ⟨rfl, hb4⟩
      go_wp2_with fail
      go_ret
      have hw2 := hW.trans (hb2.mono hW.size)
      have hw3 := hw2.trans (hb3.mono hw2.size)
      exact ⟨rfl, hw3.trans (hb4.mono hw3.size)⟩
set_option maxRecDepth 100000 in
set_option maxHeartbeats 4000000 in
theorem burst_2 (p : ByteArray) (at_ : Int) (bits : Int) (hp : 5 ≤ p.size) (hp2 : p.size ≤ 140737488351232) (hb : (bits == 0) = false) (hn0 : 0 ≤ bits) (hn1 : bits ≤ 4294967295) (w : World) (K : Nat) (X Y : Int) (hXY : (Y != X) = true)
    (hof : ∀ w, Calls Try.prog 11 #[.string p] w fun e w' => e = .returned (.int .u32 X) ∧ Below w.heap.size w w')
    (hof2 : ∀ w, Calls Try.prog 11 #[.string (B (flips bits 0 K (L p) 32))] w fun e w' => e = .returned (.int .u32 Y) ∧ Below w.heap.size w w')
    (hat : ¬ at_ < 0) (hat2 : (p.size : Int) * 8 - 32 < at_) (hK : (K : Int) = (p.size : Int) * 8 - 32) :
    Calls Try.prog 6 #[.string p, .int .i64 at_, .int .u32 bits] w fun e w' => e = .returned (.bool true) ∧ Below w.heap.size w w' := by
  have HA := Lib.hid awake_any
  have HP := Lib.hid hof
  clear hof
  have HG := Lib.hid hof2
  clear hof2
  have kb := fun (F : ByteArray) (W : World) => Lib.run_convert_string_bytes (P := Try.prog) W 9 29 5 F Try.underlying9 Try.underlying29 Try.underlying5
  have c1 : ¬ (p.size : Int) < 5 := by omega
  have HK := Lib.hid hK
  clear hK
  go_enter Try.func6, Try.ntmps6
  go_wp2_with fail
  rw [← HK.out]
  have hB0 := Bts.conv w p
  have hW0 : Below w.heap.size w (Lib.bytesWorld w 5 p) := Go.Joins.below_bytesWorld _ w 5 p (Nat.le_refl _)
  generalize grownCap w p.size 0 5 = cap
  generalize Lib.bytesWorld w 5 p = W0 at hB0 hW0 ⊢
  have k3 : (K : Int) ≤ 2000000000000000 := by have := HK.out; omega
  try clear hat2
  try clear hat
  go_loopw [10] (fun v10 wr => ∃ i : Nat, i ≤ 32 ∧ v10 = .int .i64 i ∧ Bts wr w.heap.size (flips bits 0 K (L p) i) ∧ Below w.heap.size w wr) (fun v10 _ => 32 - (intOf v10).toNat)
  case atStart => exact ⟨0, by omega, rfl, hB0, hW0⟩
  case round =>
    obtain ⟨i, hi, rfl, hB, hW⟩ := hrel
    by_cases hi2 : i < 32
    · have t1 : ((i : Int) < 32) = True := eq_true (by omega)
      have t2 : (0 : Int) ≤ (i : Int) := by omega
      have l1 : spot 0 K i < p.size := by have := HK.out; unfold spot; omega
      have gc := hB.cell (spot 0 K i) (by rw [flips_length, L_length]; exact l1)
      have gf := hB.free (spot 0 K i) (by rw [flips_length, L_length]; exact l1)
      have e0 := ix_sum K i (by omega)
      have e1 := ix_spot0 K i (by omega)
      have e2 := ix_bit K i
      have e3 := ix_lt K i
      go_wp2_with fail
      · have hbit : (Go.bits .and .u32 (bits / 2 ^ i) 1 == 1) = true := by assumption
        go_region
        have hB2 := round_set2 hn0 hn1 hbit hB (by rw [L_length]; exact l1)
        have hW2 := (hW.setCell (p := ⟨w.heap.size, spot 0 K i, none⟩) (Nat.le_refl _) (.int .u8 (Go.bits .xor .u8 ((flips bits 0 K (L p) i)[spot 0 K i]?.getD 0).toNat (2 ^ bitNo K i % 256)))).drew
        generalize (wr.setCell ⟨w.heap.size, spot 0 K i, none⟩ (.int .u8 (Go.bits .xor .u8 ((flips bits 0 K (L p) i)[spot 0 K i]?.getD 0).toNat (2 ^ bitNo K i % 256)))).drew = W2 at hB2 hW2 ⊢
        clear e0 e1 e2 e3 gc gf
        go_wp2_with fail
        go_roundw
        case rel => exact ⟨i + 1, by omega, by go_num, hB2, hW2⟩
        case measure => simp [intOf]; omega
      · have hbit : (Go.bits .and .u32 (bits / 2 ^ i) 1 == 1) = false := by first | assumption | (simp; assumption)
        have hB2 := flips_not 0 K (L p) i hn0 hn1 hbit
        rw [← hB2] at hB
        go_roundw
        case rel => exact ⟨i + 1, by omega, by go_num, hB, hW⟩
        case measure => simp [intOf]; omega
    · have t1 : ((i : Int) < 32) = False := eq_false (by omega)
      obtain rfl : i = 32 := by omega
      have kt := hB.text (n := p.size) (by rw [flips_length, L_length]) cap
      go_wp2_with fail
      refine (HG.out _).mono ?_
      rintro e w2 ⟨rfl, hb2⟩
      go_wp2_with fail
      refine (HP.out _).mono ?_
      rintro e w3 ⟨rfl, hb3⟩
      go_wp2_with fail
      refine (HA.out _).mono ?_
      rintro e w4 ⟨rfl, hb4⟩
      go_wp2_with fail
      go_ret
      have hw2 := hW.trans (hb2.mono hW.size)
      have hw3 := hw2.trans (hb3.mono hw2.size)
      exact ⟨rfl, hw3.trans (hb4.mono hw3.size)⟩
set_option maxRecDepth 100000 in
set_option maxHeartbeats 4000000 in
theorem burst_3 (p : ByteArray) (bits : Int) (hp : 5 ≤ p.size) (hp2 : p.size ≤ 140737488351232) (hb : (bits == 0) = false) (hn0 : 0 ≤ bits) (hn1 : bits ≤ 4294967295) (w : World) (K : Nat) (X Y : Int) (hXY : (Y != X) = true)
    (hof : ∀ w, Calls Try.prog 11 #[.string p] w fun e w' => e = .returned (.int .u32 X) ∧ Below w.heap.size w w')
    (hof2 : ∀ w, Calls Try.prog 11 #[.string (B (flips bits 0 K (L p) 32))] w fun e w' => e = .returned (.int .u32 Y) ∧ Below w.heap.size w w')
    (hK : (K : Int) ≤ (p.size : Int) * 8 - 32) :
    Calls Try.prog 6 #[.string p, .int .i64 (K : Int), .int .u32 bits] w fun e w' => e = .returned (.bool true) ∧ Below w.heap.size w w' := by
  have HA := Lib.hid awake_any
  have hat : ¬ (K : Int) < 0 := by omega
  have hat2 : ¬ (p.size : Int) * 8 - 32 < (K : Int) := by omega
  have HP := Lib.hid hof
  clear hof
  have HG := Lib.hid hof2
  clear hof2
  have kb := fun (F : ByteArray) (W : World) => Lib.run_convert_string_bytes (P := Try.prog) W 9 29 5 F Try.underlying9 Try.underlying29 Try.underlying5
  have c1 : ¬ (p.size : Int) < 5 := by omega
  have HK := Lib.hid hK
  clear hK
  go_enter Try.func6, Try.ntmps6
  go_wp2_with fail
  have hB0 := Bts.conv w p
  have hW0 : Below w.heap.size w (Lib.bytesWorld w 5 p) := Go.Joins.below_bytesWorld _ w 5 p (Nat.le_refl _)
  generalize grownCap w p.size 0 5 = cap
  generalize Lib.bytesWorld w 5 p = W0 at hB0 hW0 ⊢
  have k3 : (K : Int) ≤ 2000000000000000 := by have := HK.out; omega
  try clear hat2
  try clear hat
  go_loopw [10] (fun v10 wr => ∃ i : Nat, i ≤ 32 ∧ v10 = .int .i64 i ∧ Bts wr w.heap.size (flips bits 0 K (L p) i) ∧ Below w.heap.size w wr) (fun v10 _ => 32 - (intOf v10).toNat)
  case atStart => exact ⟨0, by omega, rfl, hB0, hW0⟩
  case round =>
    obtain ⟨i, hi, rfl, hB, hW⟩ := hrel
    by_cases hi2 : i < 32
    · have t1 : ((i : Int) < 32) = True := eq_true (by omega)
      have t2 : (0 : Int) ≤ (i : Int) := by omega
      have l1 : spot 0 K i < p.size := by have := HK.out; unfold spot; omega
      have gc := hB.cell (spot 0 K i) (by rw [flips_length, L_length]; exact l1)
      have gf := hB.free (spot 0 K i) (by rw [flips_length, L_length]; exact l1)
      have e0 := ix_sum K i (by omega)
      have e1 := ix_spot0 K i (by omega)
      have e2 := ix_bit K i
      have e3 := ix_lt K i
      go_wp2_with fail
      · have hbit : (Go.bits .and .u32 (bits / 2 ^ i) 1 == 1) = true := by assumption
        go_region
        have hB2 := round_set2 hn0 hn1 hbit hB (by rw [L_length]; exact l1)
        have hW2 := (hW.setCell (p := ⟨w.heap.size, spot 0 K i, none⟩) (Nat.le_refl _) (.int .u8 (Go.bits .xor .u8 ((flips bits 0 K (L p) i)[spot 0 K i]?.getD 0).toNat (2 ^ bitNo K i % 256)))).drew
        generalize (wr.setCell ⟨w.heap.size, spot 0 K i, none⟩ (.int .u8 (Go.bits .xor .u8 ((flips bits 0 K (L p) i)[spot 0 K i]?.getD 0).toNat (2 ^ bitNo K i % 256)))).drew = W2 at hB2 hW2 ⊢
        clear e0 e1 e2 e3 gc gf
        go_wp2_with fail
        go_roundw
        case rel => exact ⟨i + 1, by omega, by go_num, hB2, hW2⟩
        case measure => simp [intOf]; omega
      · have hbit : (Go.bits .and .u32 (bits / 2 ^ i) 1 == 1) = false := by first | assumption | (simp; assumption)
        have hB2 := flips_not 0 K (L p) i hn0 hn1 hbit
        rw [← hB2] at hB
        go_roundw
        case rel => exact ⟨i + 1, by omega, by go_num, hB, hW⟩
        case measure => simp [intOf]; omega
    · have t1 : ((i : Int) < 32) = False := eq_false (by omega)
      obtain rfl : i = 32 := by omega
      have kt := hB.text (n := p.size) (by rw [flips_length, L_length]) cap
      go_wp2_with fail
      refine (HG.out _).mono ?_
      rintro e w2 ⟨rfl, hb2⟩
      go_wp2_with fail
      refine (HP.out _).mono ?_
      rintro e w3 ⟨rfl, hb3⟩
      go_wp2_with fail
      refine (HA.out _).mono ?_
      rintro e w4 ⟨rfl, hb4⟩
      go_wp2_with fail
      go_ret
      have hw2 := hW.trans (hb2.mono hW.size)
      have hw3 := hw2.trans (hb3.mono hw2.size)
      exact ⟨rfl, hw3.trans (hb4.mono hw3.size)⟩
end Go.Proofs.Ytdlnbddkploeoaa.SBurst
