/- The walk of the law FrameBurst. -/
import Derived.Test.YtfibccfbcehheaaFAll
import Derived.Test.YtfibccfbcehheaaRFrameR
import Derived.Test.YtfibccfbcehheaaPrint3
import Derived.Test.YtfibccfbcehheaaBits
import Derived.Lib.ConvBytes
import Derived.Lib.SmallJoins
import Derived.LoopTactic
namespace Go.Proofs.Ytfibccfbcehheaa.FBurst
open Go.RowKit Txt Bits
theorem awake_any (w : World) : Calls Try.prog 15 #[] w fun e w' => e = .returned (.bool true) ∧ Below w.heap.size w w' := by
  obtain ⟨K, h⟩ := Print.awake04
  exact Print.freshetlaw04_awake.calls K true w (h K (Nat.le_refl _))
theorem put_any (s : ByteArray) (hs : s.size ≤ 4096) (w : World) :
    Calls Try.prog 11 #[.string s] w fun e w' => e = .returned (.tuple #[.string (B (PFrame.put (L s)).1), .int .i64 0]) ∧ Below w.heap.size w w' := by
  obtain ⟨K, h⟩ := Print.frame_put s (by omega)
  have hz : (PFrame.put (L s)).2 = 0 := by rw [PFrame.put_ok (by rw [L_length]; omega)]
  have h1 := Print.frame_Put.calls K s _ _ w (h K (Nat.le_refl _))
  rw [hz] at h1
  exact h1
set_option maxRecDepth 100000 in
set_option maxHeartbeats 4000000 in
theorem burst_1 (p : ByteArray) (at_ : Int) (bits : Int) (hp : p.size ≤ 4096) (hb : (bits == 0) = false) (hn0 : 0 ≤ bits) (hn1 : bits ≤ 4294967295) (w : World) (S : ByteArray) (hd K : Nat) (hd1 : 1 ≤ hd) (hd2 : hd ≤ 10) (hS : S.size = hd + p.size + 4) (hput : ∀ w, Calls Try.prog 11 #[.string p] w fun e w' => e = .returned (.tuple #[.string S, .int .i64 0]) ∧ Below w.heap.size w w')
    (hget : ∀ w, Calls Try.prog 16 #[.string (B (flips bits hd K (L S) 32))] w fun e w' => e = .returned (.tuple #[.string ⟨#[]⟩, .int .i64 0, .int .i64 7]) ∧ Below w.heap.size w w')
    (hat : at_ < 0) (hK : (K : Int) = ((p.size : Int) + 4) * 8 - 32) :
    Calls Try.prog 6 #[.string p, .int .i64 at_, .int .u32 bits] w fun e w' => e = .returned (.bool true) ∧ Below w.heap.size w w' := by
  have HA := Lib.hid awake_any
  have HP := Lib.hid hput
  clear hput
  have HG := Lib.hid hget
  clear hget
  have kb := fun (F : ByteArray) (W : World) => Lib.run_convert_string_bytes (P := Try.prog) W 9 33 5 F Try.underlying9 Try.underlying33 Try.underlying5
  have c1 : ¬ (p.size : Int) > 4096 := by omega
  have f1 : wrap64 ((S.size : Int) - (p.size : Int)) = (hd : Int) + 4 := by rw [hS]; unfold wrap64; omega
  have f4 : ((hd : Int) < 1) = False := eq_false (by omega)
  have HS := Lib.hid hS
  clear hS
  have HK := Lib.hid hK
  clear hK
  go_enter Try.func6, Try.ntmps6
  go_wp2_with fail
  refine (HP.out _).mono ?_
  rintro e w1 ⟨rfl, hb1⟩
  go_wp2_with fail
  rw [← HK.out]
  have hB0 := Bts.conv w1 S
  have hW0 : Below w.heap.size w (Lib.bytesWorld w1 5 S) := hb1.trans (Go.Joins.below_bytesWorld _ w1 5 S hb1.size)
  have hg : w.heap.size ≤ w1.heap.size := hb1.size
  have hsz : S.size ≤ 5000 := by have := HS.out; omega
  generalize grownCap w1 S.size 0 5 = cap
  generalize Lib.bytesWorld w1 5 S = W0 at hB0 hW0 ⊢
  generalize w1.heap.size = g at hB0 hg ⊢
  clear hb1 f1 f4
  go_loopw [13] (fun v13 wr => ∃ i : Nat, i ≤ 32 ∧ v13 = .int .i64 i ∧ Bts wr g (flips bits hd K (L S) i) ∧ Below w.heap.size w wr) (fun v13 _ => 32 - (intOf v13).toNat)
  case atStart => exact ⟨0, by omega, rfl, hB0, hW0⟩
  case round =>
    obtain ⟨i, hi, rfl, hB, hW⟩ := hrel
    by_cases hi2 : i < 32
    · have t1 : ((i : Int) < 32) = True := eq_true (by omega)
      have t2 : (0 : Int) ≤ (i : Int) := by omega
      have k3 : (K : Int) ≤ 40000 := by have := HK.out; omega
      have l1 : spot hd K i < S.size := by have := HK.out; have := HS.out; unfold spot; omega
      have gc := hB.cell (spot hd K i) (by rw [flips_length, L_length]; exact l1)
      have gf := hB.free (spot hd K i) (by rw [flips_length, L_length]; exact l1)
      have e0 := ix_sum K i (by omega)
      have e1 := ix_spot hd K i (by omega) (by omega)
      have e2 := ix_bit K i
      have e3 := ix_lt K i
      go_wp2_with fail
      · have hbit : (Go.bits .and .u32 (bits / 2 ^ i) 1 == 1) = true := by assumption
        go_region
        have hB2 := round_set hn0 hn1 hbit hB (by rw [L_length]; exact l1)
        have hW2 := (hW.setCell (p := ⟨g, spot hd K i, none⟩) hg (.int .u8 (Go.bits .xor .u8 ((flips bits hd K (L S) i)[spot hd K i]?.getD 0).toNat (IntKind.u8.wrap (2 ^ bitNo K i))))).drew
        generalize (wr.setCell ⟨g, spot hd K i, none⟩ (.int .u8 (Go.bits .xor .u8 ((flips bits hd K (L S) i)[spot hd K i]?.getD 0).toNat (IntKind.u8.wrap (2 ^ bitNo K i))))).drew = W2 at hB2 hW2 ⊢
        clear e0 e1 e2 e3 gc gf
        go_wp2_with fail
        go_roundw
        case rel => exact ⟨i + 1, by omega, by go_num, hB2, hW2⟩
        case measure => simp [intOf]; omega
      · have hbit : (Go.bits .and .u32 (bits / 2 ^ i) 1 == 1) = false := by first | assumption | (simp; assumption)
        have hB2 := flips_not hd K (L S) i hn0 hn1 hbit
        rw [← hB2] at hB
        go_roundw
        case rel => exact ⟨i + 1, by omega, by go_num, hB, hW⟩
        case measure => simp [intOf]; omega
    · have t1 : ((i : Int) < 32) = False := eq_false (by omega)
      obtain rfl : i = 32 := by omega
      have kt := hB.text (n := S.size) (by rw [flips_length, L_length]) cap
      go_wp2_with fail
      refine (HG.out _).mono ?_
      rintro e w2 ⟨rfl, hb2⟩
      go_wp2_with fail
      refine (HA.out _).mono ?_
      rintro e w3 ⟨rfl, hb3⟩
      go_wp2_with fail
      go_ret
      have hw2 := hW.trans (hb2.mono hW.size)
      exact ⟨rfl, hw2.trans (hb3.mono hw2.size)⟩
set_option maxRecDepth 100000 in
set_option maxHeartbeats 4000000 in
theorem burst_2 (p : ByteArray) (at_ : Int) (bits : Int) (hp : p.size ≤ 4096) (hb : (bits == 0) = false) (hn0 : 0 ≤ bits) (hn1 : bits ≤ 4294967295) (w : World) (S : ByteArray) (hd K : Nat) (hd1 : 1 ≤ hd) (hd2 : hd ≤ 10) (hS : S.size = hd + p.size + 4) (hput : ∀ w, Calls Try.prog 11 #[.string p] w fun e w' => e = .returned (.tuple #[.string S, .int .i64 0]) ∧ Below w.heap.size w w')
    (hget : ∀ w, Calls Try.prog 16 #[.string (B (flips bits hd K (L S) 32))] w fun e w' => e = .returned (.tuple #[.string ⟨#[]⟩, .int .i64 0, .int .i64 7]) ∧ Below w.heap.size w w')
    (hat : ¬ at_ < 0) (hat2 : ((p.size : Int) + 4) * 8 - 32 < at_) (hK : (K : Int) = ((p.size : Int) + 4) * 8 - 32) :
    Calls Try.prog 6 #[.string p, .int .i64 at_, .int .u32 bits] w fun e w' => e = .returned (.bool true) ∧ Below w.heap.size w w' := by
  have HA := Lib.hid awake_any
  have HP := Lib.hid hput
  clear hput
  have HG := Lib.hid hget
  clear hget
  have kb := fun (F : ByteArray) (W : World) => Lib.run_convert_string_bytes (P := Try.prog) W 9 33 5 F Try.underlying9 Try.underlying33 Try.underlying5
  have c1 : ¬ (p.size : Int) > 4096 := by omega
  have f1 : wrap64 ((S.size : Int) - (p.size : Int)) = (hd : Int) + 4 := by rw [hS]; unfold wrap64; omega
  have f4 : ((hd : Int) < 1) = False := eq_false (by omega)
  have HS := Lib.hid hS
  clear hS
  have HK := Lib.hid hK
  clear hK
  go_enter Try.func6, Try.ntmps6
  go_wp2_with fail
  refine (HP.out _).mono ?_
  rintro e w1 ⟨rfl, hb1⟩
  go_wp2_with fail
  rw [← HK.out]
  have hB0 := Bts.conv w1 S
  have hW0 : Below w.heap.size w (Lib.bytesWorld w1 5 S) := hb1.trans (Go.Joins.below_bytesWorld _ w1 5 S hb1.size)
  have hg : w.heap.size ≤ w1.heap.size := hb1.size
  have hsz : S.size ≤ 5000 := by have := HS.out; omega
  generalize grownCap w1 S.size 0 5 = cap
  generalize Lib.bytesWorld w1 5 S = W0 at hB0 hW0 ⊢
  generalize w1.heap.size = g at hB0 hg ⊢
  clear hb1 f1 f4
  go_loopw [13] (fun v13 wr => ∃ i : Nat, i ≤ 32 ∧ v13 = .int .i64 i ∧ Bts wr g (flips bits hd K (L S) i) ∧ Below w.heap.size w wr) (fun v13 _ => 32 - (intOf v13).toNat)
  case atStart => exact ⟨0, by omega, rfl, hB0, hW0⟩
  case round =>
    obtain ⟨i, hi, rfl, hB, hW⟩ := hrel
    by_cases hi2 : i < 32
    · have t1 : ((i : Int) < 32) = True := eq_true (by omega)
      have t2 : (0 : Int) ≤ (i : Int) := by omega
      have k3 : (K : Int) ≤ 40000 := by have := HK.out; omega
      have l1 : spot hd K i < S.size := by have := HK.out; have := HS.out; unfold spot; omega
      have gc := hB.cell (spot hd K i) (by rw [flips_length, L_length]; exact l1)
      have gf := hB.free (spot hd K i) (by rw [flips_length, L_length]; exact l1)
      have e0 := ix_sum K i (by omega)
      have e1 := ix_spot hd K i (by omega) (by omega)
      have e2 := ix_bit K i
      have e3 := ix_lt K i
      go_wp2_with fail
      · have hbit : (Go.bits .and .u32 (bits / 2 ^ i) 1 == 1) = true := by assumption
        go_region
        have hB2 := round_set hn0 hn1 hbit hB (by rw [L_length]; exact l1)
        have hW2 := (hW.setCell (p := ⟨g, spot hd K i, none⟩) hg (.int .u8 (Go.bits .xor .u8 ((flips bits hd K (L S) i)[spot hd K i]?.getD 0).toNat (IntKind.u8.wrap (2 ^ bitNo K i))))).drew
        generalize (wr.setCell ⟨g, spot hd K i, none⟩ (.int .u8 (Go.bits .xor .u8 ((flips bits hd K (L S) i)[spot hd K i]?.getD 0).toNat (IntKind.u8.wrap (2 ^ bitNo K i))))).drew = W2 at hB2 hW2 ⊢
        clear e0 e1 e2 e3 gc gf
        go_wp2_with fail
        go_roundw
        case rel => exact ⟨i + 1, by omega, by go_num, hB2, hW2⟩
        case measure => simp [intOf]; omega
      · have hbit : (Go.bits .and .u32 (bits / 2 ^ i) 1 == 1) = false := by first | assumption | (simp; assumption)
        have hB2 := flips_not hd K (L S) i hn0 hn1 hbit
        rw [← hB2] at hB
        go_roundw
        case rel => exact ⟨i + 1, by omega, by go_num, hB, hW⟩
        case measure => simp [intOf]; omega
    · have t1 : ((i : Int) < 32) = False := eq_false (by omega)
      obtain rfl : i = 32 := by omega
      have kt := hB.text (n := S.size) (by rw [flips_length, L_length]) cap
      go_wp2_with fail
      refine (HG.out _).mono ?_
      rintro e w2 ⟨rfl, hb2⟩
      go_wp2_with fail
      refine (HA.out _).mono ?_
      rintro e w3 ⟨rfl, hb3⟩
      go_wp2_with fail
      go_ret
      have hw2 := hW.trans (hb2.mono hW.size)
      exact ⟨rfl, hw2.trans (hb3.mono hw2.size)⟩
set_option maxRecDepth 100000 in
set_option maxHeartbeats 4000000 in
theorem burst_3 (p : ByteArray) (bits : Int) (hp : p.size ≤ 4096) (hb : (bits == 0) = false) (hn0 : 0 ≤ bits) (hn1 : bits ≤ 4294967295) (w : World) (S : ByteArray) (hd K : Nat) (hd1 : 1 ≤ hd) (hd2 : hd ≤ 10) (hS : S.size = hd + p.size + 4) (hput : ∀ w, Calls Try.prog 11 #[.string p] w fun e w' => e = .returned (.tuple #[.string S, .int .i64 0]) ∧ Below w.heap.size w w')
    (hget : ∀ w, Calls Try.prog 16 #[.string (B (flips bits hd K (L S) 32))] w fun e w' => e = .returned (.tuple #[.string ⟨#[]⟩, .int .i64 0, .int .i64 7]) ∧ Below w.heap.size w w')
    (hK : (K : Int) ≤ ((p.size : Int) + 4) * 8 - 32) :
    Calls Try.prog 6 #[.string p, .int .i64 (K : Int), .int .u32 bits] w fun e w' => e = .returned (.bool true) ∧ Below w.heap.size w w' := by
  have HA := Lib.hid awake_any
  have hat : ¬ (K : Int) < 0 := by omega
  have hat2 : ¬ ((p.size : Int) + 4) * 8 - 32 < (K : Int) := by omega
  have HP := Lib.hid hput
  clear hput
  have HG := Lib.hid hget
  clear hget
  have kb := fun (F : ByteArray) (W : World) => Lib.run_convert_string_bytes (P := Try.prog) W 9 33 5 F Try.underlying9 Try.underlying33 Try.underlying5
  have c1 : ¬ (p.size : Int) > 4096 := by omega
  have f1 : wrap64 ((S.size : Int) - (p.size : Int)) = (hd : Int) + 4 := by rw [hS]; unfold wrap64; omega
  have f4 : ((hd : Int) < 1) = False := eq_false (by omega)
  have HS := Lib.hid hS
  clear hS
  have HK := Lib.hid hK
  clear hK
  go_enter Try.func6, Try.ntmps6
  go_wp2_with fail
  refine (HP.out _).mono ?_
  rintro e w1 ⟨rfl, hb1⟩
  go_wp2_with fail
  have hB0 := Bts.conv w1 S
  have hW0 : Below w.heap.size w (Lib.bytesWorld w1 5 S) := hb1.trans (Go.Joins.below_bytesWorld _ w1 5 S hb1.size)
  have hg : w.heap.size ≤ w1.heap.size := hb1.size
  have hsz : S.size ≤ 5000 := by have := HS.out; omega
  generalize grownCap w1 S.size 0 5 = cap
  generalize Lib.bytesWorld w1 5 S = W0 at hB0 hW0 ⊢
  generalize w1.heap.size = g at hB0 hg ⊢
  clear hb1 f1 f4
  go_loopw [13] (fun v13 wr => ∃ i : Nat, i ≤ 32 ∧ v13 = .int .i64 i ∧ Bts wr g (flips bits hd K (L S) i) ∧ Below w.heap.size w wr) (fun v13 _ => 32 - (intOf v13).toNat)
  case atStart => exact ⟨0, by omega, rfl, hB0, hW0⟩
  case round =>
    obtain ⟨i, hi, rfl, hB, hW⟩ := hrel
    by_cases hi2 : i < 32
    · have t1 : ((i : Int) < 32) = True := eq_true (by omega)
      have t2 : (0 : Int) ≤ (i : Int) := by omega
      have k3 : (K : Int) ≤ 40000 := by have := HK.out; omega
      have l1 : spot hd K i < S.size := by have := HK.out; have := HS.out; unfold spot; omega
      have gc := hB.cell (spot hd K i) (by rw [flips_length, L_length]; exact l1)
      have gf := hB.free (spot hd K i) (by rw [flips_length, L_length]; exact l1)
      have e0 := ix_sum K i (by omega)
      have e1 := ix_spot hd K i (by omega) (by omega)
      have e2 := ix_bit K i
      have e3 := ix_lt K i
      go_wp2_with fail
      · have hbit : (Go.bits .and .u32 (bits / 2 ^ i) 1 == 1) = true := by assumption
        go_region
        have hB2 := round_set hn0 hn1 hbit hB (by rw [L_length]; exact l1)
        have hW2 := (hW.setCell (p := ⟨g, spot hd K i, none⟩) hg (.int .u8 (Go.bits .xor .u8 ((flips bits hd K (L S) i)[spot hd K i]?.getD 0).toNat (IntKind.u8.wrap (2 ^ bitNo K i))))).drew
        generalize (wr.setCell ⟨g, spot hd K i, none⟩ (.int .u8 (Go.bits .xor .u8 ((flips bits hd K (L S) i)[spot hd K i]?.getD 0).toNat (IntKind.u8.wrap (2 ^ bitNo K i))))).drew = W2 at hB2 hW2 ⊢
        clear e0 e1 e2 e3 gc gf
        go_wp2_with fail
        go_roundw
        case rel => exact ⟨i + 1, by omega, by go_num, hB2, hW2⟩
        case measure => simp [intOf]; omega
      · have hbit : (Go.bits .and .u32 (bits / 2 ^ i) 1 == 1) = false := by first | assumption | (simp; assumption)
        have hB2 := flips_not hd K (L S) i hn0 hn1 hbit
        rw [← hB2] at hB
        go_roundw
        case rel => exact ⟨i + 1, by omega, by go_num, hB, hW⟩
        case measure => simp [intOf]; omega
    · have t1 : ((i : Int) < 32) = False := eq_false (by omega)
      obtain rfl : i = 32 := by omega
      have kt := hB.text (n := S.size) (by rw [flips_length, L_length]) cap
      go_wp2_with fail
      refine (HG.out _).mono ?_
      rintro e w2 ⟨rfl, hb2⟩
      go_wp2_with fail
      refine (HA.out _).mono ?_
      rintro e w3 ⟨rfl, hb3⟩
      go_wp2_with fail
      go_ret
      have hw2 := hW.trans (hb2.mono hW.size)
      exact ⟨rfl, hw2.trans (hb3.mono hw2.size)⟩
end Go.Proofs.Ytfibccfbcehheaa.FBurst
