/- Marks that are not there, or that nobody made: the walk of the law. -/
import Derived.Test.YtnkfldoejalpkaaMarksA
namespace Go.Proofs.Ytnkfldoejalpkaa.Marks
open Go.RowKit Aid PMarks
theorem now_none (p : Option Addr) (w : World) (h : p = none ∨ ∃ b, p = some ⟨b, 0, none⟩ ∧ Held w b ⟨0, [], 0⟩) : Calls Try.prog 14 #[.pointer p] w fun e w' => e = .returned (.int .i64 0) ∧ w = w' := by
  rcases h with rfl | ⟨b, rfl, h⟩
  · exact now_nil w
  · exact now_any b _ w h
theorem lawNone (k t : Int) (w : World) : Calls Try.prog 6 #[.int .i64 k, .int .i64 t] w fun e w' => e = .returned (.bool true) ∧ Below w.heap.size w w' := by
  go_enter Try.func6, Try.ntmps6
  go_wp2_with fail
  have hR := held_zero (n := 0) (bound := 0) (now := 0) (by omega) (Blk.new w 45 (zeroCells ((0 : Nat) : Int) 0 0))
  have hB := (Below.refl w.heap.size w).alloc (Nat.le_refl _) (.cells (zeroCells ((0 : Nat) : Int) 0 0) 45)
  unfold zeroCells at hR hB
  simp only [Int.natCast_zero] at hR hB
  generalize w.alloc _ = W1 at hR hB ⊢
  have hB2 : Below w.heap.size w W1 := hB
  clear hB
  generalize hcc : w.heap.size = c at hR ⊢
  have HC := Lib.hid hcc
  rw [hcc] at hB2
  clear hcc
  have hN : None_ (some ⟨c, 0, none⟩) W1 := none_zero W1 c 0 0 hR
  have hW : (some (⟨c, 0, none⟩ : Addr)) = none ∨ ∃ b, (some (⟨c, 0, none⟩ : Addr)) = some ⟨b, 0, none⟩ ∧ Held W1 b ⟨0, [], 0⟩ := .inr ⟨c, rfl, hR⟩
  have HN := Lib.hid hN
  have HW := Lib.hid hW
  have HB := Lib.hid hB2
  clear hN hW hR hB2
  go_loop [5, 7] (fun v5 v7 => ∃ i : Nat, i ≤ 2 ∧ v7 = .int .i64 i ∧ v5 = .pointer (if i ≤ 1 then none else some ⟨c, 0, none⟩)) (fun _ v7 => 2 - (intOf v7).toNat)
  case atStart => exact ⟨0, by omega, rfl, rfl⟩
  case round =>
    obtain ⟨i, hi, rfl, rfl⟩ := hrel
    obtain rfl | rfl | rfl : i = 0 ∨ i = 1 ∨ i = 2 := by omega
    · rw [if_pos (by omega)]
      go_wp2_with fail
      refine (See_none none k t _ (none_nil _)).mono ?_
      rintro e w1 ⟨rfl, rfl⟩
      go_wp2_with fail
      refine (Text_none none _ (none_nil _)).mono ?_
      rintro e w1 ⟨rfl, rfl⟩
      go_wp2_with fail
      refine (Tell_none none k t _ (none_nil _)).mono ?_
      rintro e w1 ⟨rfl, rfl⟩
      go_wp2_with fail
      refine (Idle_none none k _ (none_nil _)).mono ?_
      rintro e w1 ⟨rfl, rfl⟩
      go_wp2_with fail
      refine (now_none none _ (.inl rfl)).mono ?_
      rintro e w1 ⟨rfl, rfl⟩
      go_wp2_with fail
      go_round
      case rel => exact ⟨1, by omega, rfl, rfl⟩
      case measure => simp [intOf]
    · rw [if_pos (by omega)]
      go_wp2_with fail
      refine (See_none _ k t _ HN.out).mono ?_
      rintro e w1 ⟨rfl, rfl⟩
      go_wp2_with fail
      refine (Text_none _ _ HN.out).mono ?_
      rintro e w1 ⟨rfl, rfl⟩
      go_wp2_with fail
      refine (Tell_none _ k t _ HN.out).mono ?_
      rintro e w1 ⟨rfl, rfl⟩
      go_wp2_with fail
      refine (Idle_none _ k _ HN.out).mono ?_
      rintro e w1 ⟨rfl, rfl⟩
      go_wp2_with fail
      refine (now_none _ _ HW.out).mono ?_
      rintro e w1 ⟨rfl, rfl⟩
      go_wp2_with fail
      go_round
      case rel => exact ⟨2, by omega, rfl, rfl⟩
      case measure => simp [intOf]
    · rw [if_neg (by omega)]
      go_wp2_with fail
      refine (awake_any _).mono ?_
      rintro e w1 ⟨rfl, hb⟩
      go_wp2_with fail
      go_ret
      have hs : c ≤ W1.heap.size := by rw [← HC.out]; exact HB.out.size
      exact ⟨rfl, by rw [HC.out]; exact HB.out.trans (hb.mono hs)⟩
end Go.Proofs.Ytnkfldoejalpkaa.Marks
