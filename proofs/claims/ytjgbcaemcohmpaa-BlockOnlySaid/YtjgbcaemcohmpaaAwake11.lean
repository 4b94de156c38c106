/- Some answers of package block that the document fixes. -/
import Derived.Test.YtjgbcaemcohmpaaRParts
import Derived.Test.YtjgbcaemcohmpaaPrint9
namespace Go.Proofs.Ytjgbcaemcohmpaa.Block
open Go.RowKit Aid Txt Print Go.Proofs.YtjgbcaemcohmpaaW.PrintWords
theorem awake_rows : PBlock.build [⟨[97, 98], 2, 1, [120]⟩, ⟨[97, 98], 1, 2, []⟩, ⟨[98], 1, 1, []⟩] 16 = ([0, 2, 97, 98, 2, 1, 1, 120, 2, 0, 1, 2, 0, 1, 98, 1, 1, 0, 0, 0, 0, 0, 1, 0, 0, 0, 16, 0, 0, 0], 0) := by
  simp [PBlock.build, PBlock.order, PBlock.ahead, PCode.lt, Op.bytesLess, PBlock.check, PBlock.whole, PBlock.enc, PBlock.ends, PBlock.rowEnc, PBlock.common, PBlock.fours, PBlock.four, PCode.putField, PCode.putUint_small]
theorem order_awake : PBlock.order [⟨[97, 98], 2, 1, [120]⟩, ⟨[97, 98], 1, 2, []⟩, ⟨[98], 1, 1, []⟩] = true := by
  simp [PBlock.order, PBlock.ahead, PCode.lt, Op.bytesLess]
theorem rows_zero : PBlock.rows [0, 0, 0, 0, 0, 0, 0, 0] = ([], 7) := by
  simp [PBlock.rows, PBlock.unfour, PBlock.decode, PBlock.body, PBlock.build]
theorem awake11 : Ev (fun k => freshetlaw11_awake.f k) true := by
  unfold freshetlaw11_awake.f
  refine Ev.bind (Ev.now _) ?_
  obtain ⟨ys, hys⟩ : ∃ ys : List S31, ys = [(⟨(⟨#[97, 98]⟩ : ByteArray), 2, 1, (⟨#[120]⟩ : ByteArray)⟩ : S31), (⟨(⟨#[97, 98]⟩ : ByteArray), 1, 2, (⟨#[]⟩ : ByteArray)⟩ : S31), (⟨(⟨#[98]⟩ : ByteArray), 1, 1, (⟨#[]⟩ : ByteArray)⟩ : S31)] := ⟨_, rfl⟩
  have hm : ys.map rowS = [⟨[97, 98], 2, 1, [120]⟩, ⟨[97, 98], 1, 2, []⟩, ⟨[98], 1, 1, []⟩] := by rw [hys]; rfl
  have hf : ∀ x ∈ ys, 0 ≤ x.f1 ∧ x.f1 < 18446744073709551616 := by rw [hys]; simp
  have hl : ys.length = 3 := by rw [hys]; rfl
  have hb := block_Build.eq ys 16 ⟨hf, by omega, by omega, by omega⟩
  rw [hm, awake_rows] at hb
  have hr := rows_ev (B [0, 0, 0, 0, 0, 0, 0, 0]) (by rw [size_B]; decide)
  unfold rowsR at hr
  rw [L_B, rows_zero] at hr
  have hO := order_eq ys (fun x hx => ⟨(hf x hx).1, (hf x hx).2⟩) (by omega)
  rw [hm, order_awake] at hO
  rw [← hys]
  refine Ev.congr (f := fun k => _) (fun k => by rw [hb, Option.bind_some]) ?_
  refine Ev.bind hr ?_
  refine Ev.congr (fun k => if_pos (by rw [L_toList, L_B])) ?_
  refine Ev.congr (fun k => if_pos rfl) ?_
  refine Ev.congr (fun k => if_pos rfl) ?_
  exact Ev.bind hO (Ev.now _)
end Go.Proofs.Ytjgbcaemcohmpaa.Block
