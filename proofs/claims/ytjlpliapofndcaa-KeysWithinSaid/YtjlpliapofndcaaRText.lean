/- The reference's ordered texts, as printed, are the plain ones. -/
import Derived.Test.YtjlpliapofndcaaText
import Derived.Test.YtjlpliapofndcaaPCode
import Derived.Test.YtjlpliapofndcaaPLink
import Derived.Test.YtjlpliapofndcaaPrint8
import Derived.Test.YtjlpliapofndcaaPrint2
namespace Go.Proofs.Ytjlpliapofndcaa.Print
open Go.RowKit Txt Go.Proofs.YtjlpliapofndcaaW.PrintWords
theorem one_byte (s : ByteArray) (i : Nat) (h : i < (L s).length) : s.extract i (i + 1) = B [(L s)[i]] := by
  apply L_inj
  rw [L_extract]
  show _ = [(L s)[i]]
  rw [List.take_succ_eq_append_getElem h, List.drop_append_of_le_length (by rw [List.length_take_of_le (by omega)]; omega), List.drop_of_length_le (by rw [List.length_take_of_le (by omega)]; omega), List.nil_append]
theorem encT_take_le (l : List UInt8) : (PCode.encT l).length ≤ 2 * l.length := by
  induction l with
  | nil => simp [PCode.encT]
  | cons c l ih => unfold PCode.encT; split <;> simp <;> omega
theorem byte_zero {c : UInt8} : ((c.toNat : Int) = 0) ↔ c = 0 :=
  ⟨fun h => UInt8.toNat_inj.1 (by have : (0 : UInt8).toNat = 0 := rfl; omega), fun h => by subst h; rfl⟩
theorem ref_putText_l (s : ByteArray) (hs : s.size ≤ 140737488355328) (d : Nat) : ∀ i : Nat, i + d = s.size → Ev (fun k => freshetref02_PutText.l0 k s (B (PCode.encT ((L s).take i))) i) (B (PCode.putText (L s))) := by
  have hlen := L_length s
  induction d with
  | zero =>
    intro i hi
    have hz := encT_take_le ((L s).take i)
    rw [List.length_take_of_le (by omega), ← size_B] at hz
    have e : B (PCode.encT ((L s).take i)) ++ (⟨#[0, 1]⟩ : ByteArray) = B (PCode.putText (L s)) := by
      apply L_inj
      rw [L_append, List.take_of_length_le (by omega)]
      exact (PCode.putText_enc (L s)).symm
    refine Ev.step (f := fun _ => some (B (PCode.encT ((L s).take i)) ++ (⟨#[0, 1]⟩ : ByteArray))) (fun k => ?_) (by rw [e]; exact Ev.now _)
    simp only [freshetref02_PutText.l0]
    rw [if_neg (by omega), if_pos (by omega)]
  | succ d ih =>
    intro i hi
    have hlt : i < (L s).length := by omega
    have hz := encT_take_le ((L s).take i)
    rw [List.length_take_of_le (by omega), ← size_B] at hz
    have h := ih (i + 1) (by omega)
    rw [List.take_succ_eq_append_getElem hlt, PCode.encT_append, PCode.encT_one] at h
    have h1 := one_byte s i hlt
    have hbt : bt s (i : Int) = ((L s)[i].toNat : Int) := by rw [bt_get s (by omega) (by omega)]; rfl
    have hw : wrap64 ((i : Int) + 1) = ((i + 1 : Nat) : Int) := by rw [wrap_id (by omega) (by omega)]; omega
    generalize (L s)[i] = c at h h1 hbt
    have h2 : (s.extract i (i + 1)).size = 1 := by rw [h1]; rfl
    refine Ev.step (fun k => ?_) h
    simp only [freshetref02_PutText.l0]
    rw [if_pos (by omega), if_pos (by omega), hw, if_pos (by omega), if_pos (by omega)]
    simp only [Int.toNat_natCast]
    rw [h2, if_pos (by omega), hbt, h1]
    by_cases hc : c = 0
    · subst hc
      have ex : B (PCode.encT ((L s).take i)) ++ B [0] ++ (⟨#[255]⟩ : ByteArray) = B (PCode.encT ((L s).take i) ++ [0, 255]) := by
        apply L_inj
        rw [L_append, L_append, List.append_assoc]
        rfl
      have ez : (B (PCode.encT ((L s).take i)) ++ B [0]).size + 1 ≤ 9223372036854775807 := by
        rw [ByteArray.size_append, size_B [0]]
        simp only [List.length_cons, List.length_nil]
        omega
      rw [if_pos (byte_zero.2 rfl), if_pos ez, if_pos rfl, ex]
    · have ex : B (PCode.encT ((L s).take i)) ++ B [c] = B (PCode.encT ((L s).take i) ++ [c]) := by
        apply L_inj
        rw [L_append]
      rw [if_neg (fun e => hc (byte_zero.1 e)), if_neg hc, ex]
theorem ref_putText (s : ByteArray) (hs : s.size ≤ 140737488355328) : Ev (fun k => freshetref02_PutText.f k s) (B (PCode.putText (L s))) := by
  refine Ev.congr (fun k => ?_) (ref_putText_l s hs s.size 0 (by omega))
  rfl
/-- what comes behind, to what stands ahead -/
def join (x : List UInt8) (i : Nat) (r : List UInt8 × Nat × Nat) : List UInt8 × Nat × Nat := if r.2.2 = 0 then (x ++ r.1, r.2.1 + i, 0) else ([], 0, r.2.2)
theorem text_zero (d : UInt8) (l : List UInt8) : PCode.text (0 :: d :: l) = if d = 1 then ([], 2, 0) else if d ≠ 255 then ([], 0, 7) else if (PCode.text l).2.2 = 0 then (0 :: (PCode.text l).1, (PCode.text l).2.1 + 2, 0) else ([], 0, (PCode.text l).2.2) := by
  rw [PCode.text]; simp
theorem byte_one {c : UInt8} : ((c.toNat : Int) = 1) ↔ c = 1 :=
  ⟨fun h => UInt8.toNat_inj.1 (by have : (1 : UInt8).toNat = 1 := rfl; omega), fun h => by subst h; rfl⟩
theorem byte_255 {c : UInt8} : ((c.toNat : Int) = 255) ↔ c = 255 :=
  ⟨fun h => UInt8.toNat_inj.1 (by have : (255 : UInt8).toNat = 255 := rfl; omega), fun h => by subst h; rfl⟩
theorem wrap_one (i : Nat) (h : i ≤ 140737488355328) : wrap64 ((i : Int) + 1) = ((i + 1 : Nat) : Int) := wrap_id (x := ((i + 1 : Nat) : Int)) (by omega) (by omega)
theorem wrap_two (i : Nat) (h : i ≤ 140737488355328) : wrap64 ((i : Int) + 2) = ((i + 2 : Nat) : Int) := wrap_id (x := ((i + 2 : Nat) : Int)) (by omega) (by omega)
theorem wrap_three (i : Nat) (h : i ≤ 140737488355328) : wrap64 (((i + 1 : Nat) : Int) + 1) = ((i + 2 : Nat) : Int) := wrap_id (x := ((i + 2 : Nat) : Int)) (by omega) (by omega)
set_option maxHeartbeats 4000000 in
theorem ref_text_l (s : ByteArray) (hs : s.size ≤ 140737488355326) (d : Nat) : ∀ (i : Nat) (x : List UInt8), i ≤ s.size → s.size - i ≤ d → x.length ≤ i → Ev (fun k => freshetref02_Text.l0 k s (B x) i) (ZT (join x i (PCode.text ((L s).drop i)))) := by
  have hlen := L_length s
  induction d with
  | zero =>
    intro i x hi hd hx
    rw [List.drop_of_length_le (by omega)]
    refine Ev.step (f := fun _ => some ((⟨#[]⟩ : ByteArray), 0, 6)) (fun k => ?_) (Ev.now _)
    simp only [freshetref02_Text.l0]
    rw [if_neg (by omega)]
  | succ d ih =>
    intro i x hi hd hx
    by_cases hlt : i < s.size
    · have hbt : bt s (i : Int) = (((L s)[i]'(by omega)).toNat : Int) := by rw [bt_get s (by omega) (by omega)]; rfl
      have h1 := one_byte s i (by omega)
      have hi2 : i ≤ 140737488355328 := by omega
      rw [List.drop_eq_getElem_cons (by omega : i < (L s).length)]
      have hih := ih (i + 1)
      generalize (L s)[i]'(by omega) = c at hbt h1 ⊢
      by_cases hc : c = 0
      · subst hc
        by_cases hend : i + 1 = s.size
        · rw [List.drop_of_length_le (by omega)]
          refine Ev.step (f := fun _ => some ((⟨#[]⟩ : ByteArray), 0, 6)) (fun k => ?_) (Ev.now _)
          simp only [freshetref02_Text.l0]
          rw [if_pos (by omega), if_pos (by omega), hbt, if_pos (byte_zero.2 rfl), wrap_one i hi2, if_pos (by omega)]
        · have hlt2 : i + 1 < (L s).length := by omega
          have hbt2 : bt s ((i + 1 : Nat) : Int) = (((L s)[i + 1]'hlt2).toNat : Int) := by rw [bt_get s (by omega) (by omega)]; rfl
          rw [List.drop_eq_getElem_cons hlt2, text_zero]
          have hih2 := ih (i + 2) (x ++ [0])
          generalize (L s)[i + 1]'hlt2 = e at hbt2 ⊢
          by_cases he1 : e = 1
          · rw [if_pos he1]
            have : ZT (join x i ([], 2, 0)) = (B x, ((i + 2 : Nat) : Int), 0) := by
              unfold join
              simp only [if_true, List.append_nil, Nat.add_comm 2 i]
              rfl
            rw [this]
            refine Ev.step (f := fun _ => some (B x, ((i + 2 : Nat) : Int), 0)) (fun k => ?_) (Ev.now _)
            simp only [freshetref02_Text.l0]
            rw [if_pos (by omega), if_pos (by omega), hbt, if_pos (byte_zero.2 rfl), wrap_one i hi2, if_neg (by omega), if_pos (by omega), if_pos (by omega), hbt2, if_pos (byte_one.2 he1), wrap_two i hi2]
          · rw [if_neg he1]
            by_cases he2 : e = 255
            · rw [if_neg (fun h => h he2)]
              have g := hih2 (by omega) (by omega) (by simp; omega)
              have ej : join (x ++ [0]) (i + 2) (PCode.text (List.drop (i + 2) (L s))) = join x i (if (PCode.text (List.drop (i + 1 + 1) (L s))).2.2 = 0 then (0 :: (PCode.text (List.drop (i + 1 + 1) (L s))).1, (PCode.text (List.drop (i + 1 + 1) (L s))).2.1 + 2, 0) else ([], 0, (PCode.text (List.drop (i + 1 + 1) (L s))).2.2)) := by
                rw [show i + 1 + 1 = i + 2 by omega]
                unfold join
                by_cases h0 : (PCode.text (List.drop (i + 2) (L s))).2.2 = 0
                · simp only [h0, if_true, List.append_assoc, List.singleton_append, Prod.mk.injEq, and_true, true_and]; omega
                · simp only [h0, if_false]
              rw [ej] at g
              refine Ev.step (fun k => ?_) g
              simp only [freshetref02_Text.l0]
              have hx0 : B x ++ (⟨#[0]⟩ : ByteArray) = B (x ++ [0]) := by apply L_inj; rw [L_append]
              rw [if_pos (by omega), if_pos (by omega), hbt, if_pos (byte_zero.2 rfl), wrap_one i hi2, if_neg (by omega), if_pos (by omega), if_pos (by omega), hbt2, if_neg (fun h => he1 (byte_one.1 h)), if_pos (byte_255.2 he2), if_pos (by rw [size_B]; omega), wrap_three i hi2, hx0]
            · rw [if_pos he2]
              refine Ev.step (f := fun _ => some ((⟨#[]⟩ : ByteArray), 0, 7)) (fun k => ?_) (Ev.now _)
              simp only [freshetref02_Text.l0]
              rw [if_pos (by omega), if_pos (by omega), hbt, if_pos (byte_zero.2 rfl), wrap_one i hi2, if_neg (by omega), if_pos (by omega), if_pos (by omega), hbt2, if_neg (fun h => he1 (byte_one.1 h)), if_neg (fun h => he2 (byte_255.1 h))]
      · have g := hih (x ++ [c]) (by omega) (by omega) (by simp; omega)
        rw [PCode.text_ne hc]
        have ej : join (x ++ [c]) (i + 1) (PCode.text (List.drop (i + 1) (L s))) = join x i (if (PCode.text (List.drop (i + 1) (L s))).2.2 = 0 then (c :: (PCode.text (List.drop (i + 1) (L s))).1, (PCode.text (List.drop (i + 1) (L s))).2.1 + 1, 0) else ([], 0, (PCode.text (List.drop (i + 1) (L s))).2.2)) := by
          unfold join
          by_cases h0 : (PCode.text (List.drop (i + 1) (L s))).2.2 = 0
          · simp only [h0, if_true, List.append_assoc, List.singleton_append, Prod.mk.injEq, and_true, true_and]; omega
          · simp only [h0, if_false]
        rw [ej] at g
        have hx0 : B x ++ B [c] = B (x ++ [c]) := by apply L_inj; rw [L_append]
        refine Ev.step (fun k => ?_) g
        simp only [freshetref02_Text.l0]
        rw [if_pos (by omega), if_pos (by omega), hbt, if_neg (fun e => hc (byte_zero.1 e)), wrap_one i hi2, if_pos (by omega), if_pos (by omega)]
        simp only [Int.toNat_natCast]
        rw [h1, if_pos (by rw [size_B, size_B]; simp only [List.length_cons, List.length_nil]; omega), hx0]
    · rw [List.drop_of_length_le (by omega)]
      refine Ev.step (f := fun _ => some ((⟨#[]⟩ : ByteArray), 0, 6)) (fun k => ?_) (Ev.now _)
      simp only [freshetref02_Text.l0]
      rw [if_neg (by omega)]
theorem ref_text (s : ByteArray) (hs : s.size ≤ 140737488355326) : Ev (fun k => freshetref02_Text.f k s) (ZT (PCode.text (L s))) := by
  have h := ref_text_l s hs s.size 0 [] (by omega) (by omega) (by simp)
  have e : join [] 0 (PCode.text ((L s).drop 0)) = PCode.text (L s) := by
    rw [List.drop_zero]
    unfold join
    rcases PCode.text_err (L s).length (L s) (Nat.le_refl _) with h | h | h
    · rw [if_pos h]; exact Prod.ext rfl (Prod.ext (Nat.add_zero _) h.symm)
    · rw [h]; rfl
    · rw [h]; rfl
  rw [e] at h
  exact h
theorem code_text (s : ByteArray) (hs : s.size ≤ 140737488355326) : code_Text.f s = some (ZT (PCode.text (L s))) := if_pos hs
end Go.Proofs.Ytjlpliapofndcaa.Print
