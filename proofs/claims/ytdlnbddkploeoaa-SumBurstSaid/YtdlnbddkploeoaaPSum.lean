/- What the laws of layer 1 share: the answers that the document fixes, and the given functions' answers at what comes in. -/
import Derived.Test.YtdlnbddkploeoaaRSum
import Derived.Test.YtdlnbddkploeoaaRSumO
import Derived.Test.YtdlnbddkploeoaaPrint1
namespace Go.Proofs.Ytdlnbddkploeoaa.Print
open Go.RowKit PLink Txt Go.Proofs.YtdlnbddkploeoaaW.PrintWords
theorem more_f (r : BitVec 32) (s : ByteArray) (h : s.size ≤ 9223372036854775807) : sum_More.f (I r) s = some (I (PCrc.sum r (L s))) := by
  unfold sum_More.f
  have h0 := I_lo r
  have h1 := I_hi r
  rw [if_pos ⟨⟨h0, h1⟩, h⟩]
  have : w32 (I r) = r := I_inj (I_w32 ⟨h0, h1⟩)
  rw [this]
theorem hash_f (r : BitVec 32) (s : ByteArray) (h : s.size ≤ 9223372036854775807) : sum_Hash.f (I r) s = some (I (PCrc.hash r (L s))) := by
  unfold sum_Hash.f
  have h0 := I_lo r
  have h1 := I_hi r
  rw [if_pos ⟨⟨h0, h1⟩, h⟩]
  have : w32 (I r) = r := I_inj (I_w32 ⟨h0, h1⟩)
  rw [this]
theorem word_of {a : Int} (h : (Lit.int .u32 a).wf = true) : ∃ r, a = I r := by
  have h2 : IntKind.u32.min ≤ a ∧ a ≤ IntKind.u32.max := by simpa [Lit.wf] using h
  have e1 : IntKind.u32.min = 0 := rfl
  have e2 : IntKind.u32.max = 4294967295 := rfl
  exact ⟨w32 a, (I_w32 ⟨by omega, by omega⟩).symm⟩
theorem sum_nine : PCrc.sum 0 [49, 50, 51, 52, 53, 54, 55, 56, 57] = 3808858755#32 := by decide +kernel
theorem sum_a : PCrc.sum 0 [97] = 3251651376#32 := by decide +kernel
theorem sum_none : PCrc.sum 0 [] = 0#32 := by decide +kernel
theorem awake01 : Ev (fun k => freshetlaw01_awake.f k) true := by
  have h := ref_hash 0 (⟨#[]⟩ : ByteArray) (by decide)
  refine Ev.congr (f := fun k => (freshetref01_Hash.f k 0 (⟨#[]⟩ : ByteArray)).bind fun t => some (I (PCrc.hash 0 []) == t)) (fun k => ?_) ?_
  · unfold freshetlaw01_awake.f
    rw [of_f _ (by decide), of_f _ (by decide), of_f _ (by decide)]
    have e1 : I (PCrc.sum 0 (L (⟨#[49, 50, 51, 52, 53, 54, 55, 56, 57]⟩ : ByteArray))) = 3808858755 := congrArg I sum_nine
    have e2 : I (PCrc.sum 0 (L (⟨#[97]⟩ : ByteArray))) = 3251651376 := congrArg I sum_a
    have e3 : I (PCrc.sum 0 (L (⟨#[]⟩ : ByteArray))) = 0 := congrArg I sum_none
    have e4 : sum_Hash.f 0 (⟨#[]⟩ : ByteArray) = some (I (PCrc.hash 0 [])) := hash_f 0 _ (by decide)
    simp only [Option.bind_some, e1, e2, e3, if_true, e4]
  · refine Ev.bind h ?_
    have : (I (PCrc.hash 0 []) == I (PCrc.hash 0 (L (⟨#[]⟩ : ByteArray)))) = true := beq_iff_eq.2 rfl
    rw [this]
    exact Ev.now _
end Go.Proofs.Ytdlnbddkploeoaa.Print
