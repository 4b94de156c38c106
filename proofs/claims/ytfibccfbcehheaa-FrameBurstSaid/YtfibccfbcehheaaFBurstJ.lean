/- The law FrameBurst: all its cases. -/
import Derived.Test.YtfibccfbcehheaaFBurst
import Derived.Test.YtfibccfbcehheaaFBurstP
namespace Go.Proofs.Ytfibccfbcehheaa.FBurst
open Go.RowKit Txt Bits
theorem burst_long (p : ByteArray) (at_ n : Int) (hp : 4096 < p.size) (w : World) :
    Calls Try.prog 6 #[.string p, .int .i64 at_, .int .u32 n] w fun e w' => e = .returned (.bool true) ∧ Below w.heap.size w w' := by
  have HA := Lib.hid awake_any
  have c1 : (p.size : Int) > 4096 := by omega
  go_enter Try.func6, Try.ntmps6
  go_wp2_with fail
  refine (HA.out _).mono ?_
  rintro e w1 ⟨rfl, hb1⟩
  go_wp2_with fail
  go_ret
  exact ⟨rfl, hb1⟩
theorem burst_none (p : ByteArray) (at_ : Int) (hp : p.size ≤ 4096) (w : World) :
    Calls Try.prog 6 #[.string p, .int .i64 at_, .int .u32 0] w fun e w' => e = .returned (.bool true) ∧ Below w.heap.size w w' := by
  have HA := Lib.hid awake_any
  have c1 : ¬ (p.size : Int) > 4096 := by omega
  go_enter Try.func6, Try.ntmps6
  go_wp2_with fail
  refine (HA.out _).mono ?_
  rintro e w1 ⟨rfl, hb1⟩
  go_wp2_with fail
  go_ret
  exact ⟨rfl, hb1⟩
theorem burst_any (p : ByteArray) (at_ n : Int) (hn0 : 0 ≤ n) (hn1 : n ≤ 4294967295) (w : World) :
    Calls Try.prog 6 #[.string p, .int .i64 at_, .int .u32 n] w fun e w' => e = .returned (.bool true) ∧ Below w.heap.size w w' := by
  by_cases hp : p.size ≤ 4096
  · by_cases hz : n = 0
    · subst hz; exact burst_none p at_ hp w
    · have hb : (n == 0) = false := by simp [hz]
      obtain ⟨b, hbn⟩ : ∃ b : BitVec 32, (b.toNat : Int) = n := ⟨BitVec.ofNat 32 n.toNat, by rw [BitVec.toNat_ofNat]; omega⟩
      have hb0 : b ≠ 0 := by
        rintro rfl
        exact hz hbn.symm
      have hl : (L p).length = p.size := L_length p
      have hS : (B (PFrame.put (L p)).1).size = (PCode.putUint p.size).length + p.size + 4 := by
        rw [size_B, PFrame.put_ok (by omega)]
        simp only [PCode.putField, List.length_append, PFrame.seal_length, hl]
      have hd1 := PCode.putUint_pos p.size
      have hd2 := PCode.putUint_length_ten (n := p.size) (by omega)
      have hget : ∀ K, K + 32 ≤ 8 * (p.size + 4) → ∀ w, Calls Try.prog 16 #[.string (B (flips n (PCode.putUint p.size).length K (L (B (PFrame.put (L p)).1)) 32))] w fun e w' => e = .returned (.tuple #[.string ⟨#[]⟩, .int .i64 0, .int .i64 7]) ∧ Below w.heap.size w w' := by
        intro K hK w
        have h1 := FAll.get_any (B (flips n (PCode.putUint p.size).length K (L (B (PFrame.put (L p)).1)) 32)) (by rw [size_B, flips_length, L_length]; omega) w
        have h2 := get_burst (L p) (by omega) b hb0 K (by omega)
        rw [hbn, hl] at h2
        rw [L_B, L_B, h2] at h1
        rw [L_B]
        exact h1
      by_cases hat : at_ < 0
      · exact burst_1 p at_ n hp hb hn0 hn1 w _ _ (8 * p.size) hd1 hd2 hS (put_any p hp) (hget _ (by omega)) hat (by omega)
      · by_cases hat2 : ((p.size : Int) + 4) * 8 - 32 < at_
        · exact burst_2 p at_ n hp hb hn0 hn1 w _ _ (8 * p.size) hd1 hd2 hS (put_any p hp) (hget _ (by omega)) hat hat2 (by omega)
        · obtain ⟨K, rfl⟩ : ∃ K : Nat, at_ = K := ⟨at_.toNat, by omega⟩
          exact burst_3 p n hp hb hn0 hn1 w _ _ K hd1 hd2 hS (put_any p hp) (hget _ (by omega)) (by omega)
  · exact burst_long p at_ n (by omega) w
end Go.Proofs.Ytfibccfbcehheaa.FBurst
