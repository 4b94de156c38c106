/- Package code's fields, as printed, are the plain ones. -/
import Derived.Test.YtjgbcaemcohmpaaRCode
import Derived.Test.YtjgbcaemcohmpaaPrint8
import Derived.Test.YtjgbcaemcohmpaaPrint2
namespace Go.Proofs.Ytjgbcaemcohmpaa.Print
open Go.RowKit Txt Go.Proofs.YtjgbcaemcohmpaaW.PrintWords
theorem uint_len (l : List UInt8) : (PCode.uint l).2.1 ≤ l.length ∧ (PCode.uint l).1 < 18446744073709551616 := by
  rcases PCode.uintAt_err 0 l with h | h | h
  · have := PCode.uint_ok (l := l) (n := (PCode.uint l).1) (s := (PCode.uint l).2.1) (by unfold PCode.uint; exact Prod.ext rfl (Prod.ext rfl h))
    exact ⟨this.2.2.1, this.2.2.2⟩
  · unfold PCode.uint; rw [h]; simp
  · unfold PCode.uint; rw [h]; simp
theorem field_len (s : ByteArray) (hs : s.size ≤ 4611686018427387904) (i : Nat) (hi : i ≤ s.size) : IntKind.u64.wrap (wrap64 ((s.size : Int) - (i : Int))) = ((s.size - i : Nat) : Int) := by
  rw [wrap_id (by omega) (by omega), wrap_u64_id (by omega) (by omega)]; omega
theorem most_word (m : Int) (h0 : 0 ≤ m) (h1 : m ≤ 9223372036854775807) : IntKind.u64.wrap m = m := wrap_u64_id h0 (by omega)
theorem code_field (s : ByteArray) (hs : s.size ≤ 4611686018427387904) (m : Int) (hm : -9223372036854775808 ≤ m ∧ m ≤ 9223372036854775807) : Ev (fun k => code_Field.f k s m) (ZT (PCode.field (L s) m)) := by
  obtain ⟨h1, h2⟩ := uint_len (L s)
  rw [L_length] at h1
  have e : ∀ k, code_Field.f k s m = (if ((PCode.uint (L s)).2.2 : Int) = 0 then (if m < 0 then (code_Field.j0 k s ((PCode.uint (L s)).1 : Int) ((PCode.uint (L s)).2.1 : Int) true) else (code_Field.j0 k s ((PCode.uint (L s)).1 : Int) ((PCode.uint (L s)).2.1 : Int) (decide (((PCode.uint (L s)).1 : Int) > (IntKind.u64.wrap (m)))))) else (some ((⟨#[]⟩ : ByteArray), 0, ((PCode.uint (L s)).2.2 : Int)))) := by
    intro k
    unfold code_Field.f
    rw [code_uint s (by omega)]
    rfl
  refine Ev.congr e ?_
  unfold PCode.field
  generalize PCode.uint (L s) = r at h1 h2
  obtain ⟨n, i, x⟩ := r
  simp only at h1 h2 ⊢
  by_cases hx : x = 0
  · subst hx
    simp only [ne_eq, not_true_eq_false, if_false]
    by_cases hb : m < 0 ∨ m < (n : Int)
    · rw [if_pos hb]
      refine Ev.congr (f := fun k => code_Field.j0 k s (n : Int) (i : Int) true) (fun k => ?_) ?_
      · rw [if_pos (by omega)]
        by_cases h0 : m < 0
        · rw [if_pos h0]
        · rw [if_neg h0, most_word m (by omega) hm.2, decide_eq_true (by omega)]
      · refine Ev.step (f := fun _ => some ((⟨#[]⟩ : ByteArray), 0, 3)) (fun k => ?_) (Ev.now _)
        simp only [code_Field.j0, if_true]
    · rw [if_neg hb]
      refine Ev.congr (f := fun k => code_Field.j0 k s (n : Int) (i : Int) false) (fun k => ?_) ?_
      · rw [if_pos (by omega), if_neg (by omega), most_word m (by omega) hm.2, decide_eq_false (by omega)]
      · by_cases hl : (L s).length - i < n
        · rw [if_pos hl]
          rw [L_length] at hl
          refine Ev.step (f := fun _ => some ((⟨#[]⟩ : ByteArray), 0, 6)) (fun k => ?_) (Ev.now _)
          simp only [code_Field.j0]
          rw [if_neg (by simp), field_len s hs i h1, if_pos (by omega)]
        · rw [if_neg hl]
          rw [L_length] at hl
          have ew : wrap64 ((i : Int) + wrap64 (n : Int)) = ((i + n : Nat) : Int) := by
            rw [wrap_id (x := (n : Int)) (by omega) (by omega), wrap_id (by omega) (by omega)]; omega
          have et : s.extract i (i + n) = B (((L s).drop i).take n) := by
            apply L_inj; rw [L_extract, L_B, List.drop_take, Nat.add_sub_cancel_left]
          refine Ev.step (f := fun _ => some (s.extract i (i + n), ((i + n : Nat) : Int), 0)) (fun k => ?_) (by rw [et]; exact Ev.now _)
          simp only [code_Field.j0]
          rw [if_neg (by simp), field_len s hs i h1, if_neg (by omega), if_pos (by omega), ew, if_pos (by omega), if_pos (by omega)]
          rfl
  · rw [if_pos hx]
    refine Ev.congr (f := fun _ => some ((⟨#[]⟩ : ByteArray), 0, (x : Int))) (fun k => ?_) (Ev.now _)
    rw [if_neg (by omega)]
theorem putUint_fits (n : Nat) (h : n < 18446744073709551616) : (B (PCode.putUint n)).size ≤ 10 := by
  rw [size_B]; exact PCode.putUint_length_ten h
theorem code_putField (s : ByteArray) (hs : s.size ≤ 4611686018427387904) : Ev (fun k => code_PutField.f k s) (B (PCode.putField (L s))) := by
  unfold code_PutField.f
  rw [wrap_u64_id (by omega) (by omega)]
  refine Ev.bind (code_put s.size (by omega)) ?_
  have := putUint_fits s.size (by omega)
  have e : B (PCode.putUint s.size) ++ s = B (PCode.putField (L s)) := by
    apply L_inj; rw [L_append, L_B, L_B, PCode.putField, L_length]
  rw [if_pos (by omega), e]
  exact Ev.now _
theorem u64_of {a : Int} (h : (Lit.int .u64 a).wf = true) : ∃ n : Nat, a = n ∧ n < 18446744073709551616 := by
  have h2 : IntKind.u64.min ≤ a ∧ a ≤ IntKind.u64.max := by simpa [Lit.wf] using h
  have e1 : IntKind.u64.min = 0 := rfl
  have e2 : IntKind.u64.max = 18446744073709551615 := rfl
  exact ⟨a.toNat, by omega, by omega⟩
theorem i64_of {a : Int} (h : (Lit.int .i64 a).wf = true) : -9223372036854775808 ≤ a ∧ a ≤ 9223372036854775807 := by
  have h2 : IntKind.i64.min ≤ a ∧ a ≤ IntKind.i64.max := by simpa [Lit.wf] using h
  have e1 : IntKind.i64.min = -9223372036854775808 := rfl
  have e2 : IntKind.i64.max = 9223372036854775807 := rfl
  omega
end Go.Proofs.Ytjgbcaemcohmpaa.Print
