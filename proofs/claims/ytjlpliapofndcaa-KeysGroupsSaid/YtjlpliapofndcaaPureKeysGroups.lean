/- A group is one of those there are, and that of one alone it is the first: for every input. -/
import Derived.Test.YtjlpliapofndcaaPureKeysGroup
import Derived.Test.YtjlpliapofndcaaPrint17
namespace Go.Proofs.Ytjlpliapofndcaa.Pure
open Go.RowKit PLink Txt Print Go.Proofs.YtjlpliapofndcaaW.PrintWords
theorem group_in (s : ByteArray) (n : Int) (hs : s.size ≤ 140737488351232) (h1 : ¬ n < 1) (h2 : ¬ n > 64) : ∃ x, keys_Group.f s n = some (x, 0) ∧ 0 ≤ x ∧ x < n := by
  unfold keys_Group.f
  rw [if_neg h1, if_neg h2, hash_zero s hs]
  simp only [Option.bind_some]
  rw [if_neg (by omega)]
  refine ⟨_, rfl, ?_⟩
  have a := I_lo (PCrc.hash (w32 0) (L s))
  have b := I_hi (PCrc.hash (w32 0) (L s))
  generalize I (PCrc.hash (w32 0) (L s)) = x at a b
  have e : n % 4294967296 = n := by omega
  rw [e, Int.tmod_eq_emod_of_nonneg a]
  have c1 := Int.emod_nonneg x (show n ≠ 0 by omega)
  have c2 := Int.emod_lt_of_pos x (show 0 < n by omega)
  rw [wrap_id (by omega) (by omega)]
  exact ⟨c1, c2⟩
theorem KeysGroups : freshetlaw03_KeysGroups.Pure := by
  intro a0 a1 hs _
  have h : Ev (fun k => freshetlaw03_KeysGroups.f k a0 a1) true := by
    unfold freshetlaw03_KeysGroups.f
    obtain ⟨y, hy, y0, y1⟩ := group_in a0 1 hs (by omega) (by omega)
    obtain rfl : y = 0 := by omega
    by_cases h1 : a1 < 1 ∨ a1 > 64
    · have hr : keys_Group.f a0 a1 = some (0, 2) := by
        unfold keys_Group.f
        by_cases c : a1 < 1
        · rw [if_pos c]
        · rw [if_neg c, if_pos (by omega)]
      refine Ev.bind (a := ((0 : Int), (2 : Int))) (by rw [hr]; exact Ev.now _) ?_
      refine Ev.bind (a := ((0 : Int), (0 : Int))) (by rw [hy]; exact Ev.now _) ?_
      have bad : Ev (fun k => freshetlaw03_KeysGroups.j0 k a1 0 2 0 0 true) true := by
        exact Ev.step (f := fun _ => (freshetlaw03_awake.f).bind fun t => some t) (fun k => by simp only [freshetlaw03_KeysGroups.j0, if_true]) awake_end
      by_cases c : a1 < 1
      · exact Ev.congr (fun k => if_pos c) bad
      · refine Ev.congr (fun k => if_neg c) ?_
        have e : decide (a1 > 64) = true := decide_eq_true (by omega)
        rw [e]
        exact bad
    · obtain ⟨x, hx, x0, x1⟩ := group_in a0 a1 hs (by omega) (by omega)
      refine Ev.bind (a := (x, (0 : Int))) (by rw [hx]; exact Ev.now _) ?_
      refine Ev.bind (a := ((0 : Int), (0 : Int))) (by rw [hy]; exact Ev.now _) ?_
      refine Ev.congr (fun k => if_neg (by omega)) ?_
      have e : decide (a1 > 64) = false := decide_eq_false (by omega)
      rw [e]
      refine Ev.step (f := fun _ => (freshetlaw03_awake.f).bind fun t => some t) (fun k => ?_) awake_end
      simp only [freshetlaw03_KeysGroups.j0]
      rw [if_neg (by simp), if_pos trivial, if_pos x0, if_pos x1, if_pos trivial, if_pos trivial]
  exact h.rounds
end Go.Proofs.Ytjlpliapofndcaa.Pure
