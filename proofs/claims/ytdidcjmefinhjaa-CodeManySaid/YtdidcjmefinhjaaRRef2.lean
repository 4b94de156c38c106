/- The reference's fields, as printed, are the plain ones; the answers that the document fixes. -/
import Derived.Test.YtdidcjmefinhjaaRField
import Derived.Test.YtdidcjmefinhjaaPrint5
import Derived.Test.YtdidcjmefinhjaaPrint5
import Derived.Test.YtdidcjmefinhjaaPrint3
namespace Go.Proofs.Ytdidcjmefinhjaa.Print
open Go.RowKit Txt Go.Proofs.YtdidcjmefinhjaaW.PrintWords
theorem ref_field (s : ByteArray) (hs : s.size ≤ 140737488355328) (m : Int) (hm : -9223372036854775808 ≤ m ∧ m ≤ 9223372036854775807) : Ev (fun k => freshetref02_Field.f k s m) (ZT (PCode.field (L s) m)) := by
  obtain ⟨h1, h2⟩ := uint_len (L s)
  rw [L_length] at h1
  unfold freshetref02_Field.f
  refine Ev.bind (ref_uint s hs) ?_
  unfold PCode.field
  generalize PCode.uint (L s) = r at h1 h2
  obtain ⟨n, i, x⟩ := r
  simp only at h1 h2 ⊢
  by_cases hx : x = 0
  · subst hx
    simp only [ne_eq, not_true_eq_false, if_false]
    by_cases hb : m < 0 ∨ m < (n : Int)
    · rw [if_pos hb]
      refine Ev.congr (f := fun k => freshetref02_Field.j0 k s (n : Int) (i : Int) true) (fun k => ?_) ?_
      · rw [if_pos (by omega)]
        by_cases h0 : m < 0
        · rw [if_pos h0]
        · rw [if_neg h0, most_word m (by omega) hm.2, decide_eq_true (by omega)]
      · refine Ev.step (f := fun _ => some ((⟨#[]⟩ : ByteArray), 0, 3)) (fun k => ?_) (Ev.now _)
        simp only [freshetref02_Field.j0, if_true]
    · rw [if_neg hb]
      refine Ev.congr (f := fun k => freshetref02_Field.j0 k s (n : Int) (i : Int) false) (fun k => ?_) ?_
      · rw [if_pos (by omega), if_neg (by omega), most_word m (by omega) hm.2, decide_eq_false (by omega)]
      · by_cases hl : (L s).length - i < n
        · rw [if_pos hl]
          rw [L_length] at hl
          refine Ev.step (f := fun _ => some ((⟨#[]⟩ : ByteArray), 0, 6)) (fun k => ?_) (Ev.now _)
          simp only [freshetref02_Field.j0]
          rw [if_neg (by simp), field_len s (by omega) i h1, if_pos (by omega)]
        · rw [if_neg hl]
          rw [L_length] at hl
          have ew : wrap64 ((i : Int) + wrap64 (n : Int)) = ((i + n : Nat) : Int) := by
            rw [wrap_id (x := (n : Int)) (by omega) (by omega), wrap_id (by omega) (by omega)]; omega
          have et : s.extract i (i + n) = B (((L s).drop i).take n) := by
            apply L_inj; rw [L_extract, L_B, List.drop_take, Nat.add_sub_cancel_left]
          refine Ev.step (f := fun _ => some (s.extract i (i + n), ((i + n : Nat) : Int), 0)) (fun k => ?_) (by rw [et]; exact Ev.now _)
          simp only [freshetref02_Field.j0]
          rw [if_neg (by simp), field_len s (by omega) i h1, if_neg (by omega), if_pos (by omega), ew, if_pos (by omega), if_pos (by omega)]
          rfl
  · rw [if_pos hx]
    refine Ev.congr (f := fun _ => some ((⟨#[]⟩ : ByteArray), 0, (x : Int))) (fun k => ?_) (Ev.now _)
    rw [if_neg (by omega)]
theorem ref_putField (s : ByteArray) (hs : s.size ≤ 140737488355328) : Ev (fun k => freshetref02_PutField.f k s) (B (PCode.putField (L s))) := by
  unfold freshetref02_PutField.f
  rw [wrap_u64_id (by omega) (by omega)]
  refine Ev.bind (ref_put s.size (by omega)) ?_
  have := putUint_fits s.size (by omega)
  have e : B (PCode.putUint s.size) ++ s = B (PCode.putField (L s)) := by
    apply L_inj; rw [L_append, L_B, L_B, PCode.putField, L_length]
  rw [if_pos (by omega), e]
  exact Ev.now _
theorem code_putOrd (n : Int) (h : -9223372036854775808 ≤ n ∧ n ≤ 9223372036854775807) : code_PutOrd.f n = some (B (PCode.putOrd n)) := if_pos h
theorem code_putText (s : ByteArray) (h : (PCode.encT (L s)).length + 2 ≤ 140737488355328) : code_PutText.f s = some (B (PCode.putText (L s))) := if_pos h
theorem put_300 : PCode.putUint 300 = [172, 2] := by
  rw [PCode.putUint_big (by omega), PCode.putUint_small (by omega)]; rfl
theorem awake02 : Ev (fun k => freshetlaw02_awake.f k) true := by
  unfold freshetlaw02_awake.f
  have e1 : PCode.uint [128, 0] = (0, 0, 7) := by decide +kernel
  have e2 : PCode.field [3, 97] 2 = ([], 0, 3) := by decide +kernel
  rw [code_uint _ (by decide), show L (⟨#[128, 0]⟩ : ByteArray) = [128, 0] from rfl, e1]
  simp only [Option.bind_some]
  refine Ev.bind (code_field (⟨#[3, 97]⟩ : ByteArray) (by decide) 2 (by decide)) ?_
  rw [show L (⟨#[3, 97]⟩ : ByteArray) = [3, 97] from rfl, e2]
  refine Ev.bind (code_put 300 (by decide)) ?_
  rw [put_300]
  refine Ev.congr (f := fun _ => some true) (fun k => ?_) (Ev.now _)
  have t1 : (B [172, 2]).toList = ([172, 2] : List UInt8) := by decide +kernel
  have t2 : (B (PCode.putOrd (-1))).toList = ([127, 255, 255, 255, 255, 255, 255, 255] : List UInt8) := by decide +kernel
  have t3 : (B (PCode.putText (L (⟨#[97, 0, 98]⟩ : ByteArray)))).toList = ([97, 0, 255, 98, 0, 1] : List UInt8) := by decide +kernel
  rw [if_pos t1, if_pos (show ((7 : Nat) : Int) = 7 from rfl), if_pos (show (ZT ([], 0, 3)).2.2 = 3 from rfl), code_putOrd (-1) (by decide)]
  simp only [Option.bind_some]
  rw [if_pos t2, code_putText _ (by decide)]
  simp only [Option.bind_some]
  rw [t3]
  rfl
end Go.Proofs.Ytdidcjmefinhjaa.Print
