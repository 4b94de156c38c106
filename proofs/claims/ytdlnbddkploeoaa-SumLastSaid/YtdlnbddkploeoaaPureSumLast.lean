/- The sum hangs on the last byte, whatever stands ahead: for every input. -/
import Derived.Test.YtdlnbddkploeoaaPSum
import Derived.Test.YtdlnbddkploeoaaPrint7
namespace Go.Proofs.Ytdlnbddkploeoaa.Pure
open Go.RowKit PLink Txt Print Go.Proofs.YtdlnbddkploeoaaW.PrintWords
theorem byte_of {a : Int} (h : (Lit.int .u8 a).wf = true) : 0 ≤ a ∧ a ≤ 255 := by
  have h2 : IntKind.u8.min ≤ a ∧ a ≤ IntKind.u8.max := by simpa [Lit.wf] using h
  have e1 : IntKind.u8.min = 0 := rfl
  have e2 : IntKind.u8.max = 255 := rfl
  omega
theorem SumLast : freshetlaw01_SumLast.Pure := by
  intro a0 a1 a2 hs hw hw2
  have b1 := byte_of hw
  have b2 := byte_of hw2
  obtain ⟨K3, h3⟩ := awake01
  dsimp only at h3
  refine ⟨K3, ?_⟩
  have hz : ∀ x : Int, (a0 ++ strOfNums [x]).size = a0.size + 1 := fun x => by rw [ByteArray.size_append, strOfNums_size]; rfl
  have hL : ∀ x : Int, L (a0 ++ strOfNums [x]) = L a0 ++ [UInt8.ofNat x.toNat] := fun x => by rw [L_append, L_nums]; rfl
  have hn : ∀ x : Int, (strOfNums [x]).size = 1 := fun x => by rw [strOfNums_size]; rfl
  unfold freshetlaw01_SumLast.f
  simp only [Option.bind_some]
  rw [if_pos (by rw [hn]; omega), of_f _ (by rw [hz]; omega), hL]
  simp only [Option.bind_some]
  rw [if_pos (by rw [hn]; omega), of_f _ (by rw [hz]; omega), hL, h3 _ (by omega)]
  simp only [Option.bind_some]
  rw [if_pos]
  by_cases e : a1 = a2
  · subst e; simp
  · have e1 : I (PCrc.sum 0 (L a0 ++ [UInt8.ofNat a1.toNat])) ≠ I (PCrc.sum 0 (L a0 ++ [UInt8.ofNat a2.toNat])) := by
      intro h
      have h := I_inj h
      unfold PCrc.sum at h
      have h := BitVec.not_inj.mp h
      rw [PCrc.fold_append, PCrc.fold_append] at h
      have h := PCrc.step_inj_c h
      have h := congrArg UInt8.toNat h
      simp at h
      omega
    rw [beq_eq_false_iff_ne.2 e, beq_eq_false_iff_ne.2 e1]; rfl
end Go.Proofs.Ytdlnbddkploeoaa.Pure
