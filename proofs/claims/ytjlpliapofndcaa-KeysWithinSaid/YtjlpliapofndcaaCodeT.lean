/- The walk of code.PutText. -/
import Derived.Test.YtjlpliapofndcaaCodeW
import Derived.Test.YtjlpliapofndcaaWMore
namespace Go.Proofs.Ytjlpliapofndcaa.CodeW
open Go.RowKit Aid Go.Proofs.YtjlpliapofndcaaW.PrintWords
theorem infoU8 : (Try.prog.info? 5).map (fun i => (i.zero, i.size, i.bytes)) = some (some (.int .u8 0), 1, 1) := by kernel_rfl
/-- bytes as cells -/
def cellsOf (l : List UInt8) : List Value := l.map fun c => .int .u8 (c.toNat : Int)
theorem cellsOf_append (a b : List UInt8) : cellsOf (a ++ b) = cellsOf a ++ cellsOf b := by simp [cellsOf]
theorem cellsOf_length (a : List UInt8) : (cellsOf a).length = a.length := by simp [cellsOf]
theorem cellsOf_nums (a : List UInt8) : cellsOf a = nums .u8 (a.map fun c => (c.toNat : Int)) := by simp [cellsOf, nums]
theorem strOf_cells (a : List UInt8) : strOfNums (a.map fun c => (c.toNat : Int)) = ⟨a.toArray⟩ := by
  unfold strOfNums
  rw [List.map_map]
  have : ((fun n : Int => UInt8.ofNat n.toNat) ∘ fun c : UInt8 => (c.toNat : Int)) = id := by funext c; simp
  rw [this, List.map_id]
theorem conv_cells {w : World} {base n : Nat} {v : Value} (l : List UInt8) (h : w.ownsRow base 5 1 v n (cellsOf l)) : (convert 47 9 v).run Try.prog w = .ok (.string ⟨l.toArray⟩) w := by
  rw [cellsOf_nums] at h
  have := own_string (P := Try.prog) Try.underlying47 Try.underlying5 Try.underlying9 h
  rw [strOf_cells] at this
  exact this
/-- one new cell lies where it was laid -/
theorem one_new (w : World) (v : Value) (t : TypeId) : ∀ j u, [v][j]? = some u → (w.alloc (.cells #[v] t)).cell? ((⟨w.heap.size, 0, none⟩ : Addr).add j) = some u := by
  intro j u h
  match j, h with
  | 0, h =>
    simp at h; subst h
    exact (Blk.new w t #[v]).cell 0
theorem two_new (w : World) (v v2 : Value) (t : TypeId) : ∀ j u, [v, v2][j]? = some u → (w.alloc (.cells #[v, v2] t)).cell? ((⟨w.heap.size, 0, none⟩ : Addr).add j) = some u := by
  intro j u h
  match j, h with
  | 0, h =>
    simp at h; subst h
    exact (Blk.new w t #[v, v2]).cell 0
  | 1, h =>
    simp at h; subst h
    exact (Blk.new w t #[v, v2]).cell 1
theorem one_cell {v : Value} (h : v.oneCell' = true) : ∀ u ∈ [v], u.oneCell' = true := by
  intro u hu; rw [List.mem_singleton.1 hu]; exact h
set_option maxRecDepth 100000 in
set_option maxHeartbeats 4000000 in
theorem putText_any (s : ByteArray) (hb : (PCode.encT s.data.toList).length + 2 ≤ 140737488355328) (w : World) :
    Calls Try.prog 41 #[.string s] w fun e w' => e = .returned (.string ⟨(PCode.putText s.data.toList).toArray⟩) ∧ Below w.heap.size w w' := by
  have hge := PCode.encT_length_ge s.data.toList
  have hsz : s.data.toList.length = s.size := by simp
  have hs2 : s.size + 2 ≤ 140737488355328 := by omega
  have HB := Lib.hid (show (PCode.encT s.data.toList).length + 2 ≤ 140737488355328 from hb)
  clear hge hsz hb
  obtain ⟨i0, hi, hz0, hz1, hz2⟩ := info_parts infoU8
  go_enter Try.func41, Try.ntmps41
  go_wp2_with (at_make; refine wpList_make_own _ rfl _ _ 47 rfl w.heap.size 5 i0 (.int .u8 0) 1 Try.underlying47 hi hz0 hz1 _ _ _ (s.size + 2) rfl rfl (by omega) ?b2 ?b3 (Nat.le_refl _) ?_)
  case b2 => rw [hz2]; omega
  case b3 => unfold maxLen; omega
  intro w1 hown1 hg1
  have hB1 : Below w.heap.size w w1 := ⟨hg1.os, hg1.tape, hg1.output, hg1.size, fun k hk => hg1.block k hk (by simp)⟩
  clear hg1
  go_wp2
  go_loopw [3, 4, 11] (fun v3 _ v11 wr => ∃ i : Nat, i ≤ s.size ∧ v11 = .int .i64 i ∧ wr.ownsRow w.heap.size 5 1 v3 (PCode.encT (s.data.toList.take i)).length (cellsOf (PCode.encT (s.data.toList.take i))) ∧ Below w.heap.size w wr) (fun _ _ v11 _ => s.size - (intOf v11).toNat)
  case atStart => exact ⟨0, by omega, rfl, hown1, hB1⟩
  case round =>
    obtain ⟨i, hi', rfl, hown, hB⟩ := hrel
    have hBs := hB.size
    by_cases hlt : i < s.size
    · have hl1 := PCode.encT_length_take s.data.toList (i + 1)
      have hcc : s.data.toList[i]? = some (s[i]'hlt) := List.getElem?_eq_getElem (by simpa using hlt)
      have hsn : s.data.toList.take (i + 1) = s.data.toList.take i ++ [s[i]'hlt] := by
        rw [List.take_succ_eq_append_getElem (by simpa using hlt)]; rfl
      have hen : PCode.encT (s.data.toList.take (i + 1)) = PCode.encT (s.data.toList.take i) ++ PCode.encT [s[i]'hlt] := by rw [hsn, PCode.encT_append]
      have hb := HB.out
      by_cases hz : (s[i]'hlt).toNat = 0
      · have hc0 : s[i]'hlt = 0 := UInt8.toNat_inj.mp hz
        have he : PCode.encT [s[i]'hlt] = [0] ++ [255] := by rw [hc0]; rfl
        rw [he] at hen
        have hlen : (PCode.encT (s.data.toList.take i)).length + 2 ≤ (PCode.encT s.data.toList).length := by rw [hen] at hl1; simp at hl1; omega
        have HE := Lib.hid hen
        clear hen hsn he hc0 hcc hl1
        generalize PCode.encT (s.data.toList.take i) = E at hown HE hlen
        have HL := Lib.hid hlen
        have hEl : E.length + 2 ≤ 140737488355326 := by omega
        clear hlen hb
        go_wp2_with (first | (at_builtin; refine wpList_append_own _ rfl (.tmp 14) (.tmp 18) 47 rfl w.heap.size 5 i0 (.int .u8 0) 1 1 Try.underlying47 hi hz0 hz1 hz2 rfl (by decide) _ _ _ rfl (hown.alloc _) ⟨wr.heap.size, 0, none⟩ 1 1 [.int .u8 0] rfl rfl (one_new _ _ _) (by intro u hu; simp at hu; first | (subst hu; rfl) | (rcases hu with hu | hu <;> (subst hu; rfl))) (by unfold maxLen; omega) (by omega) (by simp; omega) ?_; intro v1 w2 hown2 hg2 _; have hs2 := hg2.size; simp at hs2; have hB2 := (hB.alloc hBs _).grown hg2 (by simp; omega) (own_base hown); clear hg2) | (at_builtin; refine wpList_append_own _ rfl (.tmp 24) (.tmp 25) 47 rfl w.heap.size 5 i0 (.int .u8 0) 1 1 Try.underlying47 hi hz0 hz1 hz2 rfl (by decide) _ _ _ rfl (hown2.alloc _) ⟨w2.heap.size, 0, none⟩ 1 1 [.int .u8 255] rfl rfl (one_new _ _ _) (by intro u hu; simp at hu; first | (subst hu; rfl) | (rcases hu with hu | hu <;> (subst hu; rfl))) (by unfold maxLen; omega) (by omega) (by simp; omega) ?_; intro v2 w3 hown3 hg3 _; have hB3 := (hB2.alloc hB2.size _).grown hg3 (by simp; omega) (own_base hown2); clear hg3) | (fail))
        go_roundw
        case rel =>
          refine ⟨i + 1, by omega, by go_num, ?_, hB3⟩
          rw [HE.out]
          simpa [cellsOf] using hown3
        case measure => simp [intOf]; omega
      · have hz1' : ¬ (s[i]'hlt) = 0 := fun e => hz (by rw [e]; rfl)
        have he : PCode.encT [s[i]'hlt] = [s[i]'hlt] := by rw [PCode.encT_one, if_neg hz1']
        rw [he] at hen
        have hlen : (PCode.encT (s.data.toList.take i)).length + 1 ≤ (PCode.encT s.data.toList).length := by rw [hen] at hl1; simp at hl1; omega
        have HE := Lib.hid hen
        clear hen hsn he hz1' hcc hl1
        generalize PCode.encT (s.data.toList.take i) = E at hown HE hlen
        have hEl : E.length + 1 ≤ 140737488355326 := by omega
        clear hlen hb
        go_wp2_with (first | (at_builtin; refine wpList_append_own _ rfl (.tmp 14) (.tmp 18) 47 rfl w.heap.size 5 i0 (.int .u8 0) 1 1 Try.underlying47 hi hz0 hz1 hz2 rfl (by decide) _ _ _ rfl (hown.alloc _) ⟨wr.heap.size, 0, none⟩ 1 1 [.int .u8 ((s[i]'hlt).toNat : Int)] rfl rfl (one_new _ _ _) (by intro u hu; simp at hu; first | (subst hu; rfl) | (rcases hu with hu | hu <;> (subst hu; rfl))) (by unfold maxLen; omega) (by omega) (by simp; omega) ?_; intro v1 w2 hown2 hg2 _; have hB2 := (hB.alloc hBs _).grown hg2 (by simp; omega) (own_base hown); clear hg2) | (fail))
        go_roundw
        case rel =>
          refine ⟨i + 1, by omega, by go_num, ?_, hB2⟩
          rw [HE.out]
          simpa [cellsOf] using hown2
        case measure => simp [intOf]; omega
    · obtain rfl : i = s.size := by omega
      have ht : s.data.toList.take s.size = s.data.toList := List.take_of_length_le (by simp)
      rw [ht] at hown
      have hb := HB.out
      have hF : Value.string ⟨(PCode.encT s.data.toList ++ [0, 1]).toArray⟩ = Value.string ⟨(PCode.putText s.data.toList).toArray⟩ := by rw [PCode.putText_enc]
      have HF := Lib.hid hF
      clear hF ht
      generalize PCode.encT s.data.toList = E at hown HF hb
      go_wp2_with (first | (at_builtin; refine wpList_append_own _ rfl (.tmp 28) (.tmp 29) 47 rfl w.heap.size 5 i0 (.int .u8 0) 1 1 Try.underlying47 hi hz0 hz1 hz2 rfl (by decide) _ _ _ rfl (hown.alloc _) ⟨wr.heap.size, 0, none⟩ 2 2 [.int .u8 0, .int .u8 1] rfl rfl (two_new _ _ _ _) (by intro u hu; simp at hu; first | (subst hu; rfl) | (rcases hu with hu | hu <;> (subst hu; rfl))) (by unfold maxLen; omega) (by omega) (by simp; omega) ?_; intro v1 w2 hown2 hg2 _; have hB2 := (hB.alloc hBs _).grown hg2 (by simp; omega) (own_base hown); clear hg2; have hcv := conv_cells (E ++ [0, 1]) (by rw [cellsOf_append]; exact hown2)) | (fail))
      go_ret
      exact ⟨congrArg Ending.returned HF.out, hB2⟩
end Go.Proofs.Ytjlpliapofndcaa.CodeW
