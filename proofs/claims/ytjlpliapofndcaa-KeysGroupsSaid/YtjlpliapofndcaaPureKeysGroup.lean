/- The group of any key, among however many, is the document's: for every input. -/
import Derived.Test.YtjlpliapofndcaaRKeys
import Derived.Test.YtjlpliapofndcaaRSum
import Derived.Test.YtjlpliapofndcaaPrint16
namespace Go.Proofs.Ytjlpliapofndcaa.Pure
open Go.RowKit PLink Txt Print Go.Proofs.YtjlpliapofndcaaW.PrintWords
theorem hash_zero (s : ByteArray) (hs : s.size ≤ 140737488351232) : sum_Hash.f 0 s = some (I (PCrc.hash (w32 0) (L s))) := if_pos ⟨by omega, by omega⟩
theorem ref_zero (s : ByteArray) (hs : s.size ≤ 140737488351232) : Ev (fun k => freshetref01_Hash.f k 0 s) (I (PCrc.hash (w32 0) (L s))) := by
  have h := ref_hash (w32 0) s (by omega)
  rw [I_w32 (by omega)] at h
  exact h
theorem group_ev (s : ByteArray) (n : Int) (hs : s.size ≤ 140737488351232) (r : Int × Int) (h : keys_Group.f s n = some r) : Ev (fun k => freshetref03_Group.f k s n) r := by
  unfold keys_Group.f at h
  unfold freshetref03_Group.f
  by_cases h1 : n < 1
  · rw [if_pos h1] at h
    rw [← Option.some.inj h]
    exact Ev.congr (fun k => if_pos h1) (Ev.now _)
  · rw [if_neg h1] at h
    refine Ev.congr (fun k => if_neg h1) ?_
    by_cases h2 : n > 64
    · rw [if_pos h2] at h
      rw [← Option.some.inj h]
      exact Ev.congr (fun k => if_pos h2) (Ev.now _)
    · rw [if_neg h2, hash_zero s hs] at h
      simp only [Option.bind_some] at h
      refine Ev.congr (fun k => if_neg h2) ?_
      refine Ev.bind (ref_zero s hs) ?_
      rw [if_neg (by omega)] at h
      rw [← Option.some.inj h]
      exact Ev.congr (fun k => if_neg (by omega)) (Ev.now _)
theorem group_some (s : ByteArray) (n : Int) (hs : s.size ≤ 140737488351232) : ∃ r, keys_Group.f s n = some r := by
  unfold keys_Group.f
  by_cases h1 : n < 1
  · exact ⟨_, if_pos h1⟩
  · rw [if_neg h1]
    by_cases h2 : n > 64
    · exact ⟨_, if_pos h2⟩
    · rw [if_neg h2, hash_zero s hs]
      simp only [Option.bind_some]
      exact ⟨_, if_neg (by omega)⟩
theorem KeysGroup : freshetlaw03_KeysGroup.Pure := by
  intro a0 a1 hs _
  have h : Ev (fun k => freshetlaw03_KeysGroup.f k a0 a1) true := by
    unfold freshetlaw03_KeysGroup.f
    obtain ⟨r, hr⟩ := group_some a0 a1 hs
    refine Ev.bind (a := r) (by rw [hr]; exact Ev.now _) ?_
    refine Ev.bind (group_ev a0 a1 hs r hr) ?_
    refine Ev.congr (fun k => if_pos rfl) ?_
    refine Ev.congr (fun k => if_pos rfl) ?_
    exact awake_end
  exact h.rounds
end Go.Proofs.Ytjlpliapofndcaa.Pure
