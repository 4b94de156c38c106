/- A filter has each of its keys, and no more ones than they have bits: for every input. -/
import Derived.Test.YtdgfilbfkoeidaaPBloomF
import Derived.Test.YtdgfilbfkoeidaaPrint7
namespace Go.Proofs.Ytdgfilbfkoeidaa.Pure
open Go.RowKit PLink Txt Print Bloom Go.Proofs.YtdgfilbfkoeidaaW.PrintWords Go.Proofs.YtdgfilbfkoeidaaW.PrintMore
theorem all_l0 (l : List ByteArray) (hsz : ∀ s ∈ l, s.size ≤ 140737488351232) (hl : l.length ≤ 400) (q : Nat) (hq : q ≤ 32) (d : Nat) : ∀ i : Nat, i + d = l.length →
    Ev (fun k => freshetlaw10_BloomAll.l0 k l (B (filter q l)) (i : Int)) true := by
  induction d with
  | zero =>
    intro i hi
    refine Ev.step (f := fun _ => some true) (fun k => ?_) (Ev.now _)
    rw [freshetlaw10_BloomAll.l0, if_neg (by omega), awake_then]
  | succ d ih =>
    intro i hi
    refine Ev.step (f := fun k => freshetlaw10_BloomAll.l0 k l (B (filter q l)) ((i + 1 : Nat) : Int)) (fun k => ?_) (ih (i + 1) (by omega))
    have hlt : i < l.length := by omega
    have hm : l[i] ∈ l := List.getElem_mem hlt
    rw [freshetlaw10_BloomAll.l0, if_pos (by omega), if_pos (by omega), rdOf_key l i hlt, has_f _ _ (hsz _ hm), has_filter q l hq _ hm]
    simp only [Option.bind_some, if_true]
    rw [wrap_id (by omega) (by omega)]
    rfl
theorem BloomAll (l : List ByteArray) (hsz : ∀ s ∈ l, s.size ≤ 140737488351232) (a1 : Int) : ∃ k, freshetlaw10_BloomAll.f k l a1 = some true := by
  refine Ev.rounds ?_
  unfold freshetlaw10_BloomAll.f
  by_cases h : (l.length : Int) > 400
  · simp only [if_pos h, awake_then]; exact Ev.now _
  · simp only [if_neg h]
    have t0 : (⟨#[]⟩ : ByteArray).toList = ([] : List UInt8) := ByteArray.toList_eq _
    by_cases h1 : a1 < 1
    · simp only [make_off l a1 (Or.inl h1), Option.bind_some, if_pos h1, t0, if_true, awake_then, show ((2 : Int) = 0) = False from eq_false (by decide), if_false]; exact Ev.now _
    · by_cases h2 : a1 > 32
      · simp only [make_off l a1 (Or.inr h2), Option.bind_some, if_neg h1, if_pos h2, t0, if_true, awake_then, show ((2 : Int) = 0) = False from eq_false (by decide), if_false]; exact Ev.now _
      · obtain ⟨q, rfl⟩ : ∃ q : Nat, a1 = q := ⟨a1.toNat, by omega⟩
        have hq : q ≤ 32 := by omega
        have hl : l.length ≤ 400 := by omega
        have e0 := make_f l hl hsz q (by omega) (by omega)
        rw [Int.toNat_natCast] at e0
        have e3 := width_lo l.length q
        have es : (B (filter q l)).size = 1 + width l.length q := filter_size q l
        have e7 : wrap64 (bt (B (filter q l)) 0) = (probes q : Int) := by
          have h0 := bt_getD (B (filter q l)) 0
          simp only [Int.toNat_zero] at h0
          have := probes_hi q hq
          rw [h0, filter_first q l hq, wrap_id (by omega) (by omega)]
        have e8 : wrap64 ((probes q : Int) * (l.length : Int)) = ((probes q * l.length : Nat) : Int) := by
          have h1 := probes_hi q hq
          have h2 : probes q * l.length ≤ 22 * 400 := Nat.mul_le_mul h1 hl
          rw [← Int.natCast_mul, wrap_id (by omega) (by omega)]
        have eo : bloom_Ones.f (B (filter q l)) = some ((ones (B (filter q l)) : Nat) : Int) := rfl
        have ho : ones (B (filter q l)) ≤ probes q * l.length := by
          unfold ones
          rw [if_pos (fine_filter q l hq hl)]
          exact ones_filter q l
        simp only [e0, Option.bind_some, if_true, check_f, chk_filter q l hq hl, Int.natCast_zero, eo, e7, e8]
        simp only [if_neg (show ¬ ((B (filter q l)).size : Int) = 0 by rw [es]; omega), if_pos (show 0 < ((B (filter q l)).size : Int) by rw [es]; omega)]
        rw [show decide (((ones (B (filter q l)) : Nat) : Int) > ((probes q * l.length : Nat) : Int)) = false from decide_eq_false (by omega)]
        refine Ev.step (f := fun k => freshetlaw10_BloomAll.l0 k l (B (filter q l)) ((0 : Nat) : Int)) (fun k => ?_) (all_l0 l hsz hl q hq l.length 0 (by omega))
        rw [freshetlaw10_BloomAll.j0, if_neg (by simp)]
        rfl
end Go.Proofs.Ytdgfilbfkoeidaa.Pure
