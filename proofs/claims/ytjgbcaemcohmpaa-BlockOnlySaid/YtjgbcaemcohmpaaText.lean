/- Texts as bytes: what the printed functions' words say of lists. -/
import Derived.Test.YtjgbcaemcohmpaaWMore
namespace Go.Proofs.Ytjgbcaemcohmpaa.Txt
open Go.RowKit Go.Proofs.YtjgbcaemcohmpaaW.PrintWords Go.Proofs.YtjgbcaemcohmpaaW.PrintMore
/-- a text of bytes -/
abbrev B (l : List UInt8) : ByteArray := ⟨l.toArray⟩
abbrev L (s : ByteArray) : List UInt8 := s.data.toList
theorem L_B (l : List UInt8) : L (B l) = l := rfl
theorem B_L (s : ByteArray) : B (L s) = s := by cases s; rfl
theorem L_inj {s t : ByteArray} (h : L s = L t) : s = t := by rw [← B_L s, h, B_L]
theorem L_length (s : ByteArray) : (L s).length = s.size := by simp [L]
theorem size_B (l : List UInt8) : (B l).size = l.length := by simp [ByteArray.size]
theorem L_append (s t : ByteArray) : L (s ++ t) = L s ++ L t := by simp [L]
theorem L_extract (s : ByteArray) (a b : Nat) : L (s.extract a b) = ((L s).take b).drop a := by
  simp [L, Array.toList_extract, List.extract, List.drop_take]
theorem L_take (s : ByteArray) (n : Nat) : L (s.extract 0 n) = (L s).take n := by rw [L_extract]; rfl
theorem L_drop (s : ByteArray) (n : Nat) : L (s.extract n s.size) = (L s).drop n := by
  rw [L_extract, List.take_of_length_le (by rw [L_length]; omega)]
theorem bt_get (s : ByteArray) {i : Int} (h0 : 0 ≤ i) (h1 : i < (s.size : Int)) : bt s i = ((L s)[i.toNat]'(by rw [L_length]; omega)).toNat := by
  unfold bt
  rw [dif_pos (by omega)]
  rfl
theorem bt_getD (s : ByteArray) (i : Int) : bt s i = (((L s).getD i.toNat 0).toNat : Int) := by
  unfold bt
  by_cases h : i.toNat < s.size
  · rw [dif_pos h, List.getD_eq_getElem?_getD, List.getElem?_eq_getElem (by rw [L_length]; exact h)]; rfl
  · rw [dif_neg h, List.getD_eq_getElem?_getD, List.getElem?_eq_none (by rw [L_length]; omega)]; rfl
theorem wrap_id {x : Int} (h0 : -9223372036854775808 ≤ x) (h1 : x ≤ 9223372036854775807) : wrap64 x = x := by unfold wrap64; omega
/-- numbers as bytes -/
theorem L_nums (l : List Int) : L (strOfNums l) = l.map (fun x => UInt8.ofNat x.toNat) := rfl
end Go.Proofs.Ytjgbcaemcohmpaa.Txt
namespace Go.Proofs.Ytjgbcaemcohmpaa.Print
open Go.RowKit Txt
/-- a text and two numbers, as the printed functions hand them back -/
abbrev ZT (r : List UInt8 × Nat × Nat) : ByteArray × Int × Int := (B r.1, (r.2.1 : Int), (r.2.2 : Int))
end Go.Proofs.Ytjgbcaemcohmpaa.Print
