/- The law SumBurst: all its cases. -/
import Derived.Test.YtdlnbddkploeoaaSBurst
namespace Go.Proofs.Ytdlnbddkploeoaa.SBurst
open Go.RowKit Txt Bits PLink
theorem burst_short (p : ByteArray) (at_ n : Int) (hp : p.size < 5) (w : World) :
    Calls Try.prog 6 #[.string p, .int .i64 at_, .int .u32 n] w fun e w' => e = .returned (.bool true) ∧ Below w.heap.size w w' := by
  have HA := Lib.hid awake_any
  have c1 : (p.size : Int) < 5 := by omega
  go_enter Try.func6, Try.ntmps6
  go_wp2_with fail
  refine (HA.out _).mono ?_
  rintro e w1 ⟨rfl, hb1⟩
  go_wp2_with fail
  go_ret
  exact ⟨rfl, hb1⟩
theorem burst_none (p : ByteArray) (at_ : Int) (hp : 5 ≤ p.size) (w : World) :
    Calls Try.prog 6 #[.string p, .int .i64 at_, .int .u32 0] w fun e w' => e = .returned (.bool true) ∧ Below w.heap.size w w' := by
  have HA := Lib.hid awake_any
  have c1 : ¬ (p.size : Int) < 5 := by omega
  go_enter Try.func6, Try.ntmps6
  go_wp2_with fail
  refine (HA.out _).mono ?_
  rintro e w1 ⟨rfl, hb1⟩
  go_wp2_with fail
  go_ret
  exact ⟨rfl, hb1⟩
theorem burst_any (p : ByteArray) (hp2 : p.size ≤ 140737488351232) (at_ n : Int) (hn0 : 0 ≤ n) (hn1 : n ≤ 4294967295) (w : World) :
    Calls Try.prog 6 #[.string p, .int .i64 at_, .int .u32 n] w fun e w' => e = .returned (.bool true) ∧ Below w.heap.size w w' := by
  by_cases hp : 5 ≤ p.size
  · by_cases hz : n = 0
    · subst hz; exact burst_none p at_ hp w
    · have hb : (n == 0) = false := by simp [hz]
      obtain ⟨b, hbn⟩ : ∃ b : BitVec 32, (b.toNat : Int) = n := ⟨BitVec.ofNat 32 n.toNat, by rw [BitVec.toNat_ofNat]; omega⟩
      have hb0 : b ≠ 0 := by
        rintro rfl
        exact hz hbn.symm
      have hl : (L p).length = p.size := L_length p
      have h1 := Sum.of_any p (by omega)
      have h2 := fun K => Sum.of_any (B (flips n 0 K (L p) 32)) (by rw [size_B, flips_length, L_length]; omega)
      have h3 : ∀ K, K + 32 ≤ 8 * p.size → (I (PCrc.sum 0 (B (flips n 0 K (L p) 32)).data.toList) != I (PCrc.sum 0 p.data.toList)) = true := by
        intro K hK
        rw [bne_iff_ne]
        intro e
        have e2 : PCrc.sum 0 (flips n 0 K (L p) 32) = PCrc.sum 0 (L p) := by
          apply BitVec.eq_of_toNat_eq
          have : ((PCrc.sum 0 (flips n 0 K (L p) 32)).toNat : Int) = ((PCrc.sum 0 (L p)).toNat : Int) := e
          omega
        have e3 := fold_burst b hb0 (~~~ 0) (L p) 0 K (by omega)
        rw [hbn] at e3
        apply e3
        have e4 : ~~~ (PCrc.fold (~~~ 0) (flips n 0 K (L p) 32)) = ~~~ (PCrc.fold (~~~ 0) (L p)) := e2
        simpa using congrArg (~~~ ·) e4
      by_cases hat : at_ < 0
      · exact burst_1 p at_ n hp hp2 hb hn0 hn1 w (8 * p.size - 32) _ _ (h3 _ (by omega)) h1 (h2 _) hat (by omega)
      · by_cases hat2 : (p.size : Int) * 8 - 32 < at_
        · exact burst_2 p at_ n hp hp2 hb hn0 hn1 w (8 * p.size - 32) _ _ (h3 _ (by omega)) h1 (h2 _) hat hat2 (by omega)
        · obtain ⟨K, rfl⟩ : ∃ K : Nat, at_ = K := ⟨at_.toNat, by omega⟩
          exact burst_3 p n hp hp2 hb hn0 hn1 w K _ _ (h3 _ (by omega)) h1 (h2 _) (by omega)
  · exact burst_short p at_ n (by omega) w
end Go.Proofs.Ytdlnbddkploeoaa.SBurst
