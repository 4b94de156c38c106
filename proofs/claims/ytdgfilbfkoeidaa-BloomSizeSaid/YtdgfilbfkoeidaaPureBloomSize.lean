/- What is made is a filter's text, as long as it must be, with its probes: for every input. -/
import Derived.Test.YtdgfilbfkoeidaaPBloomF
import Derived.Test.YtdgfilbfkoeidaaPrint5
namespace Go.Proofs.Ytdgfilbfkoeidaa.Pure
open Go.RowKit PLink Txt Print Bloom Go.Proofs.YtdgfilbfkoeidaaW.PrintWords Go.Proofs.YtdgfilbfkoeidaaW.PrintMore
theorem size_out (l : List ByteArray) (a1 : Int) : Ev (fun k => freshetlaw10_BloomSize.j0 k l a1 true) true := by
  refine Ev.step (f := fun _ => some true) (fun k => ?_) (Ev.now _)
  rw [freshetlaw10_BloomSize.j0, if_pos rfl, awake_then]
theorem BloomSize (l : List ByteArray) (hsz : ∀ s ∈ l, s.size ≤ 140737488351232) (a1 : Int) : ∃ k, freshetlaw10_BloomSize.f k l a1 = some true := by
  refine Ev.rounds ?_
  unfold freshetlaw10_BloomSize.f
  by_cases h : (l.length : Int) > 400
  · simp only [if_pos h]; exact size_out l a1
  · simp only [if_neg h]
    by_cases h1 : a1 < 1
    · simp only [if_pos h1]; exact size_out l a1
    · simp only [if_neg h1]
      by_cases h2 : a1 > 32
      · simp only [decide_eq_true h2]; exact size_out l a1
      · simp only [decide_eq_false h2]
        obtain ⟨q, rfl⟩ : ∃ q : Nat, a1 = q := ⟨a1.toNat, by omega⟩
        refine Ev.step (f := fun _ => some true) (fun k => ?_) (Ev.now _)
        rw [freshetlaw10_BloomSize.j0, if_neg (by simp), make_f l (by omega) hsz q (by omega) (by omega)]
        simp only [Option.bind_some, if_true, Int.toNat_natCast]
        rw [check_f, chk_filter q l (by omega) (by omega)]
        simp only [Option.bind_some, Int.natCast_zero, if_true]
        have e1 : (l.length : Int) * (q : Int) = ((l.length * q : Nat) : Int) := by push_cast; rfl
        have e2 : l.length * q ≤ 400 * 32 := Nat.mul_le_mul (by omega) (by omega)
        have e3 := width_lo l.length q
        have e4 := width_hi l.length q (by omega) (by omega)
        have e5 : wrap64 (((B (filter q l)).size : Int) - 1) = (width l.length q : Int) := by rw [filter_size, wrap_id (by omega) (by omega)]; omega
        have e6 : wrap64 (Int.tdiv (wrap64 ((mx 64 (wrap64 ((l.length : Int) * (q : Int)))) + 7)) 8) = (width l.length q : Int) := by
          rw [e1]
          unfold width mx
          generalize l.length * q = P at e2
          rw [wrap_id (x := (P : Int)) (by omega) (by omega)]
          by_cases c : (64 : Int) < (P : Int)
          · rw [if_pos c, wrap_id (x := (P : Int) + 7) (by omega) (by omega), Int.tdiv_eq_ediv_of_nonneg (by omega), wrap_id (by omega) (by omega)]; omega
          · rw [if_neg c, show wrap64 (Int.tdiv (wrap64 ((64 : Int) + 7)) 8) = 8 by decide +kernel]; omega
        have e7 : wrap64 (bt (B (filter q l)) 0) = (probes q : Int) := by
          have h0 := bt_getD (B (filter q l)) 0
          simp only [Int.toNat_zero] at h0
          have := probes_hi q (by omega)
          rw [h0, filter_first q l (by omega), wrap_id (by omega) (by omega)]
        have e8 : mx 1 (wrap64 (Int.tdiv (wrap64 ((q : Int) * 7)) 10)) = (probes q : Int) := by
          rw [wrap_id (x := (q : Int) * 7) (by omega) (by omega), Int.tdiv_eq_ediv_of_nonneg (by omega), wrap_id (by omega) (by omega)]
          unfold probes mx
          split <;> omega
        rw [e5, e6, if_pos rfl, if_pos (by rw [filter_size]; omega), e7, e8, if_pos rfl, awake_then]
end Go.Proofs.Ytdgfilbfkoeidaa.Pure
