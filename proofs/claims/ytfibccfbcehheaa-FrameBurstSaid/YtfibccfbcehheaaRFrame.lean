/- Package frame's functions and its reference's, as printed, are the plain ones. -/
import Derived.Test.YtfibccfbcehheaaRField
import Derived.Test.YtfibccfbcehheaaRSumO
import Derived.Test.YtfibccfbcehheaaPFrame
import Derived.Test.YtfibccfbcehheaaPrint1
import Derived.Test.YtfibccfbcehheaaPrint1
import Derived.Test.YtfibccfbcehheaaPrint2
import Derived.Test.YtfibccfbcehheaaPrint3
namespace Go.Proofs.Ytfibccfbcehheaa.Print
open Go.RowKit PLink Txt Go.Proofs.YtfibccfbcehheaaW.PrintWords
theorem L_toList (s : ByteArray) : s.toList = L s := ByteArray.toList_eq s
theorem B_append (l : List UInt8) (s : ByteArray) : B l ++ s = B (l ++ L s) := by
  apply L_inj; rw [L_append]
theorem le4_nums (u : BitVec 32) : strOfNums [I u % 256, (I u / 256) % 256, (I u / 65536) % 256, (I u / 16777216) % 256] = B (PCrc.le4 u) := by
  apply L_inj
  rw [L_nums]
  have := u.isLt
  have a : (I u % 256).toNat = u.toNat % 256 := by unfold I; omega
  have b : (I u / 256 % 256).toNat = u.toNat / 256 % 256 := by unfold I; omega
  have c : (I u / 65536 % 256).toNat = u.toNat / 65536 % 256 := by unfold I; omega
  have d : (I u / 16777216 % 256).toNat = u.toNat / 16777216 := by unfold I; omega
  simp only [List.map_cons, List.map_nil, a, b, c, d]
  rfl
theorem seal_f (s : ByteArray) (h : s.size ≤ 9223372036854775807) : frame_seal.f s = some (B (PFrame.mark (L s))) := by
  unfold frame_seal.f
  rw [of_f s h]
  simp only [Option.bind_some]
  rw [le4_nums]
  rfl
/-- a text and a number -/
abbrev Z2 (r : List UInt8 × Nat) : ByteArray × Int := (B r.1, (r.2 : Int))
theorem field_small (l : List UInt8) (h : l.length ≤ 65536) : (PCode.putField l).length ≤ 65546 := by
  unfold PCode.putField
  have := PCode.putUint_length_ten (n := l.length) (by omega)
  rw [List.length_append]; omega
theorem frame_put (s : ByteArray) (hs : s.size ≤ 4611686018427387904) : Ev (fun k => frame_Put.f k s) (Z2 (PFrame.put (L s))) := by
  unfold frame_Put.f
  by_cases h : s.size ≤ 65536
  · rw [PFrame.put_ok (by rw [L_length]; exact h)]
    refine Ev.congr (fun k => if_neg (by omega)) ?_
    refine Ev.bind (code_putField s hs) ?_
    have hf := field_small (L s) (by rw [L_length]; exact h)
    rw [seal_f _ (by rw [size_B]; omega)]
    simp only [Option.bind_some]
    rw [show L (B (PCode.putField (L s))) = PCode.putField (L s) from rfl, if_pos (by rw [size_B, size_B, PFrame.seal_length]; omega), B_append]
    exact Ev.now _
  · have e : PFrame.put (L s) = ([], 3) := by unfold PFrame.put; rw [L_length, if_pos (by omega)]
    rw [e]
    exact Ev.congr (fun k => if_pos (by omega)) (Ev.now _)
/-- a frame's size -/
def sizeZ (n : Int) : Int := if 0 ≤ n ∧ n ≤ 65536 then ((PCode.putUint n.toNat).length : Int) + n + 4 else 0
theorem frame_size (n : Int) : Ev (fun k => frame_Size.f k n) (sizeZ n) := by
  unfold frame_Size.f sizeZ
  by_cases h : 0 ≤ n ∧ n ≤ 65536
  · rw [if_pos h]
    have p := PCode.putUint_length_ten (n := n.toNat) (by omega)
    refine Ev.congr (f := fun k => (code_PutUint.f k ((n.toNat : Nat) : Int)).bind fun t => some (wrap64 ((wrap64 ((t.size : Int) + n)) + 4))) (fun k => ?_) ?_
    · rw [if_neg (by omega), if_neg (by omega), wrap_u64_id (by omega) (by omega), show ((n.toNat : Nat) : Int) = n by omega]
    · refine Ev.bind (code_put n.toNat (by omega)) ?_
      have e : wrap64 (wrap64 ((((PCode.putUint n.toNat).length : Nat) : Int) + n) + 4) = ((PCode.putUint n.toNat).length : Int) + n + 4 := by
        rw [wrap_id (x := (((PCode.putUint n.toNat).length : Nat) : Int) + n) (by omega) (by omega)]
        exact wrap_id (by omega) (by omega)
      rw [size_B, e]
      exact Ev.now _
  · rw [if_neg h]
    refine Ev.congr (f := fun _ => some 0) (fun k => ?_) (Ev.now _)
    by_cases h0 : n < 0
    · rw [if_pos h0]
    · rw [if_neg h0, if_pos (by omega)]
theorem field_size_le {l t : List UInt8} {m : Int} {i : Nat} (h : PCode.field l m = (t, i, 0)) : i ≤ l.length := (PCode.field_ok h).2.2.1
theorem wrap_four (i : Nat) (h : i ≤ 4611686018427387904) : wrap64 ((i : Int) + 4) = ((i + 4 : Nat) : Int) := wrap_id (x := ((i + 4 : Nat) : Int)) (by omega) (by omega)
theorem wrap_left (n i : Nat) (h : n ≤ 4611686018427387904) (hi : i ≤ n) : wrap64 ((n : Int) - (i : Int)) = ((n - i : Nat) : Int) := by
  rw [show (n : Int) - (i : Int) = ((n - i : Nat) : Int) by omega]; exact wrap_id (by omega) (by omega)
theorem L_mid (s : ByteArray) (i n : Nat) : L (s.extract i (i + n)) = ((L s).drop i).take n := by
  rw [L_extract, List.drop_take, Nat.add_sub_cancel_left]
theorem frame_get (s : ByteArray) (hs : s.size ≤ 4611686018427380000) : Ev (fun k => frame_Get.f k s) (ZT (PFrame.get (L s))) := by
  unfold frame_Get.f
  refine Ev.bind (code_field s (by omega) 65536 (by decide)) ?_
  have hl := L_length s
  unfold PFrame.get
  have hle : ∀ t i, PCode.field (L s) 65536 = (t, i, 0) → i ≤ (L s).length := fun t i h => field_size_le h
  generalize PCode.field (L s) 65536 = r at hle
  obtain ⟨t, i, x⟩ := r
  by_cases hx : x = 0
  · subst hx
    have hi := hle t i rfl
    have hi2 : i ≤ 4611686018427387904 := by omega
    simp only [ne_eq, not_true_eq_false, if_false]
    refine Ev.congr (fun k => if_pos rfl) ?_
    rw [wrap_left s.size i (by omega) (by omega)]
    by_cases h4 : (L s).length - i < 4
    · rw [if_pos h4]
      exact Ev.congr (fun k => if_pos (by omega)) (Ev.now _)
    · rw [if_neg h4]
      refine Ev.congr (fun k => if_neg (by omega)) ?_
      refine Ev.congr (fun k => if_pos (by omega)) ?_
      refine Ev.congr (fun k => if_pos (by omega)) ?_
      simp only [Int.toNat_natCast]
      rw [seal_f _ (by rw [← L_length, L_take, List.length_take]; omega), wrap_four i hi2]
      simp only [Option.bind_some, Int.toNat_natCast, L_toList]
      rw [L_mid, L_take]
      refine Ev.congr (fun k => if_pos (by omega)) ?_
      refine Ev.congr (fun k => if_pos (by omega)) ?_
      rw [show L (B (PFrame.mark ((L s).take i))) = PFrame.mark ((L s).take i) from rfl]
      by_cases hm : PFrame.mark ((L s).take i) = ((L s).drop i).take 4
      · rw [if_neg (show ¬ ¬ (PFrame.mark ((L s).take i) = ((L s).drop i).take 4) from fun h => h hm)]
        exact Ev.congr (fun k => if_pos hm) (Ev.now _)
      · rw [if_pos (show ¬ (PFrame.mark ((L s).take i) = ((L s).drop i).take 4) from hm)]
        exact Ev.congr (fun k => if_neg hm) (Ev.now _)
  · rw [if_pos hx]
    exact Ev.congr (fun k => if_neg (fun e => hx (Int.ofNat_eq_zero.1 e))) (Ev.now _)
end Go.Proofs.Ytfibccfbcehheaa.Print
