/- The reference's frames, as printed, are the plain ones; the answers that the document fixes. -/
import Derived.Test.YtfibccfbcehheaaRFrame
import Derived.Test.YtfibccfbcehheaaPrint2
import Derived.Test.YtfibccfbcehheaaPrint2
import Derived.Test.YtfibccfbcehheaaPrint2
import Derived.Test.YtfibccfbcehheaaPrint6
import Derived.Test.YtfibccfbcehheaaPrint3
namespace Go.Proofs.Ytfibccfbcehheaa.Print
open Go.RowKit PLink Txt Go.Proofs.YtfibccfbcehheaaW.PrintWords
theorem low_nums (u : BitVec 32) : ([(Int.tmod (I u) 256) % 256, ((Int.tdiv (I u) 256) % 4294967296) % 256, ((Int.tdiv (I u) 65536) % 4294967296) % 256, ((Int.tdiv (I u) 16777216) % 4294967296) % 256] : List Int) = [I u % 256, (I u / 256) % 256, (I u / 65536) % 256, (I u / 16777216) % 256] := by
  have h0 := I_lo u
  have h1 := I_hi u
  rw [Int.tmod_eq_emod_of_nonneg h0, Int.tdiv_eq_ediv_of_nonneg h0, Int.tdiv_eq_ediv_of_nonneg h0, Int.tdiv_eq_ediv_of_nonneg h0]
  generalize I u = x at h0 h1
  have a : x % 256 % 256 = x % 256 := by omega
  have b : x / 256 % 4294967296 % 256 = x / 256 % 256 := by omega
  have c : x / 65536 % 4294967296 % 256 = x / 65536 % 256 := by omega
  have d : x / 16777216 % 4294967296 % 256 = x / 16777216 % 256 := by omega
  rw [a, b, c, d]
theorem ref_seal (s : ByteArray) (h : s.size ≤ 9223372036854775806) : Ev (fun k => freshetref04_seal.f k s) (B (PFrame.mark (L s))) := by
  unfold freshetref04_seal.f
  refine Ev.bind (ref_of s h) ?_
  rw [low_nums, le4_nums]
  exact Ev.now _
theorem ref_fput (s : ByteArray) (hs : s.size ≤ 4611686018427387904) : Ev (fun k => freshetref04_Put.f k s) (Z2 (PFrame.put (L s))) := by
  unfold freshetref04_Put.f
  have hl := L_length s
  by_cases h : s.size ≤ 65536
  · rw [PFrame.put_ok (by rw [L_length]; exact h)]
    refine Ev.congr (fun k => if_neg (by omega)) ?_
    rw [wrap_u64_id (by omega) (by omega)]
    refine Ev.bind (ref_put s.size (by omega)) ?_
    have hf := field_small (L s) (by omega)
    have e : B (PCode.putUint s.size) ++ s = B (PCode.putField (L s)) := by
      rw [B_append, PCode.putField, hl]
    have hz := putUint_fits s.size (by omega)
    refine Ev.congr (fun k => if_pos (by omega)) ?_
    rw [e]
    refine Ev.bind (ref_seal _ (by rw [size_B]; omega)) ?_
    rw [show L (B (PCode.putField (L s))) = PCode.putField (L s) from rfl]
    refine Ev.congr (fun k => if_pos (by rw [size_B, size_B, PFrame.seal_length]; omega)) ?_
    rw [B_append]
    exact Ev.now _
  · have e : PFrame.put (L s) = ([], 3) := by unfold PFrame.put; rw [L_length, if_pos (by omega)]
    rw [e]
    exact Ev.congr (fun k => if_pos (by omega)) (Ev.now _)
theorem put_one {n : Nat} (h : n < 128) : (PCode.putUint n).length = 1 := by rw [PCode.putUint_small h]; rfl
theorem put_two {n : Nat} (h : ¬ n < 128) (h2 : n < 16384) : (PCode.putUint n).length = 2 := by rw [PCode.putUint_big h, PCode.putUint_small (by omega)]; rfl
theorem put_three {n : Nat} (h : ¬ n < 16384) (h2 : n < 2097152) : (PCode.putUint n).length = 3 := by rw [PCode.putUint_big (by omega), PCode.putUint_big (by omega), PCode.putUint_small (by omega)]; rfl
theorem ref_size (n : Int) (hn : -9223372036854775808 ≤ n ∧ n ≤ 9223372036854775807) : Ev (fun k => freshetref04_Size.f k n) (sizeZ n) := by
  unfold freshetref04_Size.f sizeZ
  by_cases h : 0 ≤ n ∧ n ≤ 65536
  · rw [if_pos h]
    refine Ev.congr (f := fun k => freshetref04_Size.j0 k n false) (fun k => ?_) ?_
    · rw [if_neg (by omega), decide_eq_false (by omega)]
    · by_cases h1 : n < 128
      · refine Ev.step (f := fun _ => some (n + 5)) (fun k => ?_) (by rw [put_one (by omega), show ((1 : Nat) : Int) + n + 4 = n + 5 by omega]; exact Ev.now _)
        simp only [freshetref04_Size.j0, Bool.false_eq_true, if_false]
        rw [if_pos h1, wrap_id (by omega) (by omega)]
      · by_cases h2 : n < 16384
        · refine Ev.step (f := fun _ => some (n + 6)) (fun k => ?_) (by rw [put_two (by omega) (by omega), show ((2 : Nat) : Int) + n + 4 = n + 6 by omega]; exact Ev.now _)
          simp only [freshetref04_Size.j0, Bool.false_eq_true, if_false]
          rw [if_neg h1, if_pos h2, wrap_id (by omega) (by omega)]
        · refine Ev.step (f := fun _ => some (n + 7)) (fun k => ?_) (by rw [put_three (by omega) (by omega), show ((3 : Nat) : Int) + n + 4 = n + 7 by omega]; exact Ev.now _)
          simp only [freshetref04_Size.j0, Bool.false_eq_true, if_false]
          rw [if_neg h1, if_neg h2, wrap_id (by omega) (by omega)]
  · rw [if_neg h]
    refine Ev.congr (f := fun k => freshetref04_Size.j0 k n true) (fun k => ?_) ?_
    · by_cases h0 : n < 0
      · rw [if_pos h0]
      · rw [if_neg h0, decide_eq_true (by omega)]
    · refine Ev.step (f := fun _ => some 0) (fun k => ?_) (Ev.now _)
      simp only [freshetref04_Size.j0, if_true]
theorem wrap_sum (i n : Nat) (hi : i ≤ 4611686018427387904) (hn : n ≤ 65536) : wrap64 ((i : Int) + wrap64 (n : Int)) = ((i + n : Nat) : Int) := by
  rw [wrap_id (x := (n : Int)) (by omega) (by omega), show ((i : Int) + (n : Int)) = ((i + n : Nat) : Int) by omega]
  exact wrap_id (by omega) (by omega)
theorem ref_get (s : ByteArray) (hs : s.size ≤ 140737488351232) : Ev (fun k => freshetref04_Get.f k s) (ZT (PFrame.get (L s))) := by
  unfold freshetref04_Get.f
  refine Ev.bind (ref_uint s (by omega)) ?_
  have hl := L_length s
  unfold PFrame.get PCode.field
  obtain ⟨g1, g2⟩ := uint_len (L s)
  generalize PCode.uint (L s) = r at g1 g2
  obtain ⟨n, i, x⟩ := r
  simp only at g1 g2
  by_cases hx : x = 0
  · subst hx
    simp only [ne_eq, not_true_eq_false, if_false]
    refine Ev.congr (fun k => if_pos rfl) ?_
    by_cases hn : 65536 < n
    · rw [if_pos (Or.inr (by omega))]
      exact Ev.congr (fun k => if_pos (by omega)) (Ev.now _)
    · have hc : ¬ ((65536 : Int) < 0 ∨ (65536 : Int) < (n : Int)) := by omega
      simp only [hc, if_false]
      refine Ev.congr (fun k => if_neg (by omega)) ?_
      rw [wrap_sum i n (by omega) (by omega), wrap_four (i + n) (by omega)]
      by_cases h4 : (L s).length - i < n
      · rw [if_pos h4]
        exact Ev.congr (fun k => if_pos (by omega)) (Ev.now _)
      · rw [if_neg h4]
        simp only [not_true_eq_false, if_false]
        by_cases h5 : (L s).length - (i + n) < 4
        · rw [if_pos h5]
          exact Ev.congr (fun k => if_pos (by omega)) (Ev.now _)
        · rw [if_neg h5]
          refine Ev.congr (fun k => if_neg (by omega)) ?_
          refine Ev.congr (fun k => if_pos (by omega)) ?_
          refine Ev.congr (fun k => if_pos (by omega)) ?_
          simp only [Int.toNat_natCast]
          refine Ev.bind (ref_seal _ (by rw [← L_length, L_take, List.length_take]; omega)) ?_
          simp only [L_toList]
          rw [L_mid, L_take]
          refine Ev.congr (fun k => if_pos (by omega)) ?_
          refine Ev.congr (fun k => if_pos (by omega)) ?_
          rw [show L (B (PFrame.mark ((L s).take (i + n)))) = PFrame.mark ((L s).take (i + n)) from rfl]
          by_cases hm : PFrame.mark ((L s).take (i + n)) = ((L s).drop (i + n)).take 4
          · rw [if_neg (show ¬ ¬ (PFrame.mark ((L s).take (i + n)) = ((L s).drop (i + n)).take 4) from fun h => h hm)]
            refine Ev.congr (fun k => if_pos hm) ?_
            refine Ev.congr (fun k => if_pos (by omega)) ?_
            refine Ev.congr (fun k => if_pos (by omega)) ?_
            have et : s.extract i (i + n) = B (((L s).drop i).take n) := by
              apply L_inj; rw [L_mid]
            rw [et]
            exact Ev.now _
          · rw [if_pos (show ¬ (PFrame.mark ((L s).take (i + n)) = ((L s).drop (i + n)).take 4) from hm)]
            exact Ev.congr (fun k => if_neg hm) (Ev.now _)
  · simp only [ne_eq, hx, not_false_eq_true, if_true]
    exact Ev.congr (fun k => if_neg (fun e => hx (Int.ofNat_eq_zero.1 e))) (Ev.now _)
theorem put_none : (PFrame.put []).1.length = 5 ∧ (PFrame.put []).2 = 0 := by
  rw [PFrame.put_ok (by simp)]
  refine ⟨?_, rfl⟩
  rw [List.length_append, PFrame.seal_length, PCode.putField, List.length_append, put_one (by simp)]
  rfl
theorem awake04 : Ev (fun k => freshetlaw04_awake.f k) true := by
  unfold freshetlaw04_awake.f
  have e1 : PFrame.get [129, 128, 4] = ([], 0, 3) := by decide +kernel
  have e2 : PFrame.get [1, 97] = ([], 0, 6) := by decide +kernel
  have e3 := put_none
  have s1 : sizeZ 128 = 134 := by
    unfold sizeZ
    rw [if_pos (by omega), put_two (by decide) (by decide)]; rfl
  have s2 : sizeZ 65537 = 0 := by unfold sizeZ; rw [if_neg (by omega)]
  have f1 := frame_size 128
  have f2 := frame_size 65537
  rw [s1] at f1
  rw [s2] at f2
  refine Ev.bind (frame_put (⟨#[]⟩ : ByteArray) (by decide)) ?_
  refine Ev.bind (frame_get (⟨#[129, 128, 4]⟩ : ByteArray) (by decide)) ?_
  refine Ev.bind (frame_get (⟨#[1, 97]⟩ : ByteArray) (by decide)) ?_
  rw [show L (⟨#[129, 128, 4]⟩ : ByteArray) = [129, 128, 4] from rfl, show L (⟨#[1, 97]⟩ : ByteArray) = [1, 97] from rfl, show L (⟨#[]⟩ : ByteArray) = [] from rfl, e1, e2]
  refine Ev.congr (fun k => if_pos (by rw [size_B, e3.1]; rfl)) ?_
  refine Ev.congr (fun k => if_pos (by show ((PFrame.put []).2 : Int) = 0; rw [e3.2]; rfl)) ?_
  refine Ev.congr (fun k => if_pos rfl) ?_
  refine Ev.congr (fun k => if_pos rfl) ?_
  refine Ev.bind f1 ?_
  refine Ev.congr (fun k => if_pos rfl) ?_
  refine Ev.bind f2 ?_
  exact Ev.now _
end Go.Proofs.Ytfibccfbcehheaa.Print
