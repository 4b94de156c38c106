/- Two sums that are unlike stay unlike, whatever bytes stand behind, and two that are alike stay alike: for every input. -/
import Derived.Test.YtdlnbddkploeoaaPSum
import Derived.Test.YtdlnbddkploeoaaPrint8
namespace Go.Proofs.Ytdlnbddkploeoaa.Pure
open Go.RowKit PLink Txt Print Go.Proofs.YtdlnbddkploeoaaW.PrintWords
theorem SumApart : freshetlaw01_SumApart.Pure := by
  intro a0 a1 a2 hw hw2 hs
  obtain ⟨r, rfl⟩ := word_of hw
  obtain ⟨q, rfl⟩ := word_of hw2
  obtain ⟨K3, h3⟩ := awake01
  dsimp only at h3
  refine ⟨K3, ?_⟩
  unfold freshetlaw01_SumApart.f
  rw [more_f r a2 (by omega), more_f q a2 (by omega), h3 _ (by omega)]
  simp only [Option.bind_some]
  rw [if_pos]
  by_cases e : r = q
  · subst e; simp
  · have e1 : I r ≠ I q := fun h => e (I_inj h)
    have e2 : I (PCrc.sum r (L a2)) ≠ I (PCrc.sum q (L a2)) := fun h => e (PCrc.sum_inj (I_inj h))
    rw [beq_eq_false_iff_ne.2 e1, beq_eq_false_iff_ne.2 e2]; rfl
end Go.Proofs.Ytdlnbddkploeoaa.Pure
