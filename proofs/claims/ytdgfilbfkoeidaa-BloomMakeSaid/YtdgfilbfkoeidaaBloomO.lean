/- The walks of package bloom: how many bits are ones. -/
import Derived.Test.YtdgfilbfkoeidaaBloomH
namespace Go.Proofs.Ytdgfilbfkoeidaa.Bloom
open Go.RowKit PLink Txt Bits Aid Lib
def ones (F : ByteArray) : Nat := if fine F then PBloom.ones ((L F).drop 1) else 0
/-- the ones of four bits -/
def half : Array Value := #[.int .i64 0, .int .i64 1, .int .i64 1, .int .i64 2, .int .i64 1, .int .i64 2, .int .i64 2, .int .i64 3, .int .i64 1, .int .i64 2, .int .i64 2, .int .i64 3, .int .i64 2, .int .i64 3, .int .i64 3, .int .i64 4]
def Halves (W : World) (b : Nat) : Prop := ∀ j, j < 16 → W.cell? ⟨b, j, none⟩ = some (.int .i64 (PBloom.pop 4 j : Int))
theorem half_cells (W : World) : Halves (W.alloc (.cells half 39)) W.heap.size := by
  intro j hj
  have h := (World.rowIs_alloc W half 39 (fun j => .int .i64 (PBloom.pop 4 j : Int)) (fun i hi => by
    have hi : i < 16 := hi
    match i, hi with
    | 0, _ | 1, _ | 2, _ | 3, _ | 4, _ | 5, _ | 6, _ | 7, _ | 8, _ | 9, _ | 10, _ | 11, _ | 12, _ | 13, _ | 14, _ | 15, _ => rfl
    | n + 16, h => exact absurd h (by omega)))
  exact h.cell hj
theorem pop_halves : ∀ c : Fin 256, PBloom.pop 8 c.val = PBloom.pop 4 (c.val % 16) + PBloom.pop 4 (c.val / 16) := by decide +kernel
theorem ones_snoc (G : List UInt8) (i : Nat) (c : UInt8) (h : G[i]? = some c) : PBloom.ones (G.take (i + 1)) = PBloom.ones (G.take i) + (PBloom.pop 4 (c.toNat % 16) + PBloom.pop 4 (c.toNat / 16)) := by
  obtain ⟨hi, rfl⟩ := List.getElem?_eq_some_iff.1 h
  rw [List.take_succ_eq_append_getElem hi]
  unfold PBloom.ones
  rw [List.map_append, List.sum_append]
  have := pop_halves ⟨G[i].toNat, G[i].toNat_lt⟩
  simp only at this
  simp [this]
theorem ones_small (G : List UInt8) (i : Nat) : PBloom.ones (G.take i) ≤ 8 * i := by
  have h : ∀ l : List UInt8, PBloom.ones l ≤ 8 * l.length := by
    intro l
    induction l with
    | nil => simp [PBloom.ones]
    | cons c l ih =>
      have := PBloom.pop_le 8 c.toNat
      unfold PBloom.ones at ih ⊢
      simp only [List.map_cons, List.sum_cons, List.length_cons]
      omega
  have := h (G.take i)
  have h2 : (G.take i).length ≤ i := List.length_take_le i G
  omega
theorem low4 (c : UInt8) : bits .and .u8 (c.toNat : Int) 15 = ((c.toNat % 16 : Nat) : Int) := by
  have h1 := c.toNat_lt
  rw [show (15 : Int) = ((15 : Nat) : Int) from rfl, u8_and_nat _ _ (by omega) (by omega)]
  have : c.toNat &&& 15 = c.toNat % 16 := Nat.and_two_pow_sub_one_eq_mod c.toNat 4
  rw [this]
set_option maxHeartbeats 1000000 in
theorem ones_any (F : ByteArray) (w : World) : Calls Try.prog 16 #[.string F] w fun e w' => e = .returned (.int .i64 (ones F : Int)) ∧ Below w.heap.size w w' := by
  have HC := Lib.hid (check_any F)
  by_cases hf : fine F
  · have hc : chk F = 0 := by unfold chk; rw [if_pos hf]
    have hh : ones F = PBloom.ones ((L F).drop 1) := by unfold ones; rw [if_pos hf]
    rw [hc] at HC
    have HH := Lib.hid hh
    clear hh hc
    have h9 : (9 : Int) ≤ (F.size : Int) := by have := hf.1; omega
    have h10 : (F.size : Int) ≤ 262145 := by have := hf.2.1; omega
    go_enter Try.func16, Try.ntmps16
    go_wp2_with fail
    refine (HC.out _).mono ?_
    rintro e w1 ⟨rfl, hb1⟩
    go_wp2_with fail
    have hR := half_cells w1
    have hb2 := hb1.alloc hb1.size (.cells half 39)
    unfold half at hR hb2
    generalize w1.alloc _ = W1 at hR hb2 ⊢
    generalize w1.heap.size = b at hR ⊢
    have hGl : ((L F).drop 1).length = F.size - 1 := by rw [List.length_drop, L_length]
    have hget : ∀ i, (h : i < F.size - 1) → ((L F).drop 1)[i]? = some (F[1 + i]'(by omega)) := by
      intro i h
      rw [List.getElem?_drop, List.getElem?_eq_getElem (by rw [L_length]; omega)]
      rfl
    generalize (L F).drop 1 = G at HH hGl hget
    have HG := Lib.hid hGl
    have HT := Lib.hid hget
    have HR := Lib.hid hR
    clear hR hGl hget hf
    go_loopw [4, 14] (fun v4 v14 wr => ∃ i : Nat, i ≤ F.size - 1 ∧ v4 = .int .i64 (PBloom.ones (G.take i) : Int) ∧ v14 = .int .i64 i ∧ Halves wr b ∧ Below w.heap.size w wr) (fun _ v14 _ => F.size - (intOf v14).toNat)
    case atStart => exact ⟨0, by omega, rfl, rfl, HR.out, hb2⟩
    case round =>
      obtain ⟨i, hi, rfl, rfl, hc, hb⟩ := hrel
      by_cases hlt : i < F.size - 1
      · have t1 : ((i : Int) < (F.size : Int) - 1) = True := eq_true (by omega)
        have hF : 1 + i < F.size := by omega
        have hs1 := ones_snoc G i _ (HT.out i hlt)
        have hsm := ones_small G i
        generalize PBloom.ones (G.take i) = n at hs1 hsm ⊢
        have hcl := (F[1 + i]'hF).toNat_lt
        have q1 := low4 (F[1 + i]'hF)
        have gl := hc ((F[1 + i]'hF).toNat % 16) (by omega)
        have gh := hc ((F[1 + i]'hF).toNat / 16) (by omega)
        have pl := PBloom.pop_le 4 ((F[1 + i]'hF).toNat % 16)
        have ph := PBloom.pop_le 4 ((F[1 + i]'hF).toNat / 16)
        obtain ⟨lo, hlo⟩ : ∃ lo, lo = (F[1 + i]'hF).toNat % 16 := ⟨_, rfl⟩
        obtain ⟨hi2, hhi⟩ : ∃ hi2, hi2 = (F[1 + i]'hF).toNat / 16 := ⟨_, rfl⟩
        have l16 : lo < 16 := by omega
        have h16 : hi2 < 16 := by omega
        have q2 : ((F[1 + i]'hF).toNat : Int) / 16 = (hi2 : Int) := by omega
        have q3 : ((F[1 + i]'hF).toNat : Int) / 2 ^ 4 = (hi2 : Int) := by omega
        rw [← hlo] at q1 gl pl hs1
        rw [← hhi] at gh ph hs1
        generalize PBloom.pop 4 lo = a at gl pl hs1
        generalize PBloom.pop 4 hi2 = c at gh ph hs1
        obtain ⟨s, hs⟩ : ∃ s, s = a + c := ⟨_, rfl⟩
        have r1 : IntKind.i64.wrap ((a : Int) + (c : Int)) = (s : Int) := by rw [IntKind.wrap_i64]; omega
        have r2 : IntKind.i64.wrap ((n : Int) + (s : Int)) = ((n + s : Nat) : Int) := by rw [IntKind.wrap_i64]; omega
        have HS := Lib.hid (show PBloom.ones (G.take (i + 1)) = n + s by rw [hs1, hs])
        clear hlo hhi hs hs1 hsm
        go_wp2_with fail
        go_region
        all_goals
          go_wp2_with fail
          go_roundw
          case rel => exact ⟨i + 1, by omega, by rw [HS.out]; push_cast; rfl, by go_num, fun j hj => hc j hj, hb.drew⟩
          case measure => simp [intOf]; omega
      · have t1 : ((i : Int) < (F.size : Int) - 1) = False := eq_false (by omega)
        obtain rfl : i = F.size - 1 := by omega
        have hn : PBloom.ones (G.take (F.size - 1)) = PBloom.ones G := by rw [← HG.out, List.take_length]
        rw [hn]
        clear hn
        go_wp2_with fail
        go_ret
        exact ⟨by rw [HH.out]; rfl, hb⟩
  · have hc : chk F = 7 := by unfold chk; rw [if_neg hf]
    have hh : ones F = 0 := by unfold ones; rw [if_neg hf]
    rw [hc] at HC
    rw [hh]
    clear hh hc
    go_enter Try.func16, Try.ntmps16
    go_wp2_with fail
    refine (HC.out _).mono ?_
    rintro e w1 ⟨rfl, hb1⟩
    go_wp2_with fail
    go_ret
    exact ⟨rfl, hb1⟩
end Go.Proofs.Ytdgfilbfkoeidaa.Bloom
