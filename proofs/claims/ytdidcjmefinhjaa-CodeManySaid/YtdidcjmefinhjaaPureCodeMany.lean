/- Fields, one behind the other, are read back one by one, whatever stands behind: for every input. -/
import Derived.Test.YtdidcjmefinhjaaRRef2
import Derived.Test.YtdidcjmefinhjaaPrint7
namespace Go.Proofs.Ytdidcjmefinhjaa.Pure
open Go.RowKit Txt Print Go.Proofs.YtdidcjmefinhjaaW.PrintWords
/-- all fields, one behind the other -/
def flds : List ByteArray → List UInt8
  | [] => []
  | s :: l => PCode.putField (L s) ++ flds l
theorem flds_append (a b : List ByteArray) : flds (a ++ b) = flds a ++ flds b := by
  induction a with
  | nil => rfl
  | cons s a ih => simp only [List.cons_append, flds, ih, List.append_assoc]
theorem flds_take (l : List ByteArray) (i : Nat) (h : i < l.length) : flds (l.take (i + 1)) = flds (l.take i) ++ PCode.putField (L l[i]) := by
  rw [List.take_succ_eq_append_getElem h, flds_append]
  simp only [flds, List.append_nil]
theorem field_le (s : ByteArray) (h : s.size ≤ 140737488351232) : (PCode.putField (L s)).length ≤ 140737488351242 := by
  unfold PCode.putField
  have := PCode.putUint_length_ten (n := (L s).length) (by rw [L_length]; omega)
  rw [List.length_append, L_length] at *
  omega
theorem flds_le (l : List ByteArray) (h : ∀ s ∈ l, s.size ≤ 140737488351232) : (flds l).length ≤ l.length * 140737488351242 := by
  induction l with
  | nil => simp [flds]
  | cons s l ih =>
    have a := field_le s (h s (by simp))
    have b := ih (fun x hx => h x (by simp [hx]))
    simp only [flds, List.length_append, List.length_cons, Nat.add_mul]
    omega
theorem rd_at (l : List ByteArray) (i : Nat) (h : i < l.length) : rdOf ByteArray.empty l (i : Int) = l[i] := by
  unfold rdOf
  rw [Int.toNat_natCast, List.getD_eq_getElem?_getD, List.getElem?_eq_getElem h]
  rfl
theorem wrap_nat (n : Nat) (h : n ≤ 9223372036854775806) : wrap64 ((n : Int) + 1) = ((n + 1 : Nat) : Int) := wrap_id (x := ((n + 1 : Nat) : Int)) (by omega) (by omega)
theorem wrap_plus (n m : Nat) (h : n + m ≤ 9223372036854775806) : wrap64 ((n : Int) + (m : Int)) = ((n + m : Nat) : Int) := wrap_id (x := ((n + m : Nat) : Int)) (by omega) (by omega)
theorem many_l1 (l : List ByteArray) (t : ByteArray) (hl : l.length ≤ 50) (hs : ∀ s ∈ l, s.size ≤ 140737488351232) (ht : t.size ≤ 140737488351232) (d : Nat) : ∀ i : Nat, i + d = l.length →
    Ev (fun k => freshetlaw02_CodeMany.l1 k l t (B (flds l ++ L t)) ((flds (l.take i)).length : Int) (i : Int)) true := by
  have hall := flds_le l hs
  have hsz : (B (flds l ++ L t)).size ≤ 4611686018427387904 := by rw [size_B, List.length_append, L_length]; omega
  have hcut : ∀ i, i ≤ l.length → flds l = flds (l.take i) ++ flds (l.drop i) := fun i _ => by rw [← flds_append, List.take_append_drop]
  have hbt : (B (flds l ++ L t)).size = (flds l).length + t.size := by rw [size_B, List.length_append, L_length]
  have hdrop : ∀ i, i ≤ l.length → L ((B (flds l ++ L t)).extract (flds (l.take i)).length (B (flds l ++ L t)).size) = flds (l.drop i) ++ L t := fun i hi => by
    rw [L_drop]
    show (flds l ++ L t).drop _ = _
    rw [hcut i hi, List.append_assoc, List.drop_left]
  have hle : ∀ i, i ≤ l.length → (flds (l.take i)).length ≤ (flds l).length := fun i hi => by rw [hcut i hi, List.length_append]; omega
  induction d with
  | zero =>
    intro i hi
    have h1 := hdrop i (by omega)
    have h2 := hle i (by omega)
    refine Ev.step (f := fun k => (freshetlaw02_awake.f k).bind fun t169 => some t169) (fun k => ?_) (Ev.bind awake02 (Ev.now _))
    simp only [freshetlaw02_CodeMany.l1]
    rw [if_neg (by omega), if_pos (by omega), if_pos (by omega), if_pos]
    rw [ByteArray.toList_eq, ByteArray.toList_eq]
    simp only [Int.toNat_natCast]
    have e : L ((B (flds l ++ L t)).extract (flds (l.take i)).length (B (flds l ++ L t)).size) = L t := by
      rw [h1, List.drop_of_length_le (by omega)]; rfl
    exact e
  | succ d ih =>
    intro i hi
    have hlt : i < l.length := by omega
    have h1 := hdrop i (by omega)
    have h2 := hle i (by omega)
    have h3 := ih (i + 1) (by omega)
    have hsi := hs l[i] (List.getElem_mem hlt)
    rw [List.drop_eq_getElem_cons hlt] at h1
    simp only [flds, List.append_assoc] at h1
    have hf := PCode.field_put (L l[i]) (flds (l.drop (i + 1)) ++ L t) (l[i].size : Int) (by rw [L_length]; omega) (by rw [L_length]; exact Int.le_refl _)
    have hx : ((B (flds l ++ L t)).extract (flds (l.take i)).length (B (flds l ++ L t)).size).size ≤ 4611686018427387904 := by
      have := congrArg List.length h1
      have hq : (flds (l.take i)).length + (PCode.putField (L l[i]) ++ (flds (l.drop (i + 1)) ++ L t)).length = (flds l).length + t.size := by
        rw [hcut i (by omega), List.drop_eq_getElem_cons hlt]
        simp only [flds, List.length_append, L_length]
        omega
      rw [L_length] at this
      omega
    have hfield := code_field _ hx (l[i].size : Int) (by omega)
    rw [h1, hf] at hfield
    have hput := flds_take l i hlt
    have hlen : (flds (l.take (i + 1))).length = (flds (l.take i)).length + (PCode.putField (L l[i])).length := by rw [hput, List.length_append]
    have hle2 := hle (i + 1) (by omega)
    refine Ev.step (f := fun k => (code_Field.f k ((B (flds l ++ L t)).extract (flds (l.take i)).length (B (flds l ++ L t)).size) (l[i].size : Int)).bind fun bt165 => if bt165.1.toList = l[i].toList then (if bt165.2.2 = 0 then freshetlaw02_CodeMany.l1 k l t (B (flds l ++ L t)) (wrap64 (((flds (l.take i)).length : Int) + bt165.2.1)) ((i + 1 : Nat) : Int) else some false) else some false) (fun k => ?_) ?_
    · simp only [freshetlaw02_CodeMany.l1]
      rw [if_pos (by omega), if_pos (by omega), if_pos (by omega), if_pos (by omega), rd_at l i hlt, wrap_nat i (by omega)]
      rfl
    · refine Ev.bind hfield ?_
      refine Ev.congr (fun k => if_pos (by show (B (L l[i])).toList = l[i].toList; rw [B_L])) ?_
      refine Ev.congr (fun k => if_pos rfl) ?_
      dsimp only
      rw [wrap_plus (flds (l.take i)).length (PCode.putField (L l[i])).length (by omega), ← hlen]
      exact h3
theorem many_l0 (l : List ByteArray) (t : ByteArray) (hl : l.length ≤ 50) (hs : ∀ s ∈ l, s.size ≤ 140737488351232) (ht : t.size ≤ 140737488351232) (d : Nat) : ∀ i : Nat, i + d = l.length →
    Ev (fun k => freshetlaw02_CodeMany.l0 k l t (B (flds (l.take i))) (i : Int)) true := by
  have hall := flds_le l hs
  have hcut : ∀ i, i ≤ l.length → flds l = flds (l.take i) ++ flds (l.drop i) := fun i _ => by rw [← flds_append, List.take_append_drop]
  have hle : ∀ i, i ≤ l.length → (flds (l.take i)).length ≤ (flds l).length := fun i hi => by rw [hcut i hi, List.length_append]; omega
  induction d with
  | zero =>
    intro i hi
    have h1 := many_l1 l t hl hs ht l.length 0 (by omega)
    refine Ev.step (fun k => ?_) h1
    simp only [freshetlaw02_CodeMany.l0]
    have e : B (flds (l.take i)) ++ t = B (flds l ++ L t) := by
      apply L_inj; rw [L_append, List.take_of_length_le (by omega)]
    rw [if_neg (by omega), if_pos (by have := hle i (by omega); rw [size_B]; omega), e]
    rfl
  | succ d ih =>
    intro i hi
    have hlt : i < l.length := by omega
    have h3 := ih (i + 1) (by omega)
    have hsi := hs l[i] (List.getElem_mem hlt)
    have hle1 := hle i (by omega)
    have hle2 := field_le l[i] hsi
    refine Ev.step (f := fun k => (code_PutField.f k l[i]).bind fun t163 => if (B (flds (l.take i))).size + t163.size ≤ 9223372036854775807 then freshetlaw02_CodeMany.l0 k l t (B (flds (l.take i)) ++ t163) ((i + 1 : Nat) : Int) else none) (fun k => ?_) ?_
    · simp only [freshetlaw02_CodeMany.l0]
      rw [if_pos (by omega), if_pos (by omega), rd_at l i hlt, wrap_nat i (by omega)]
    · refine Ev.bind (code_putField l[i] (by omega)) ?_
      have e : B (flds (l.take i)) ++ B (PCode.putField (L l[i])) = B (flds (l.take (i + 1))) := by
        apply L_inj; rw [L_append, flds_take l i hlt]
      refine Ev.congr (fun k => if_pos (by rw [size_B, size_B]; omega)) ?_
      rw [e]
      exact h3
theorem CodeMany (l : List ByteArray) (t : ByteArray) (hs : ∀ s ∈ l, s.size ≤ 140737488351232) (ht : t.size ≤ 140737488351232) : ∃ k, freshetlaw02_CodeMany.f k l t = some true := by
  have h : Ev (fun k => freshetlaw02_CodeMany.f k l t) true := by
    unfold freshetlaw02_CodeMany.f
    by_cases hl : (l.length : Int) > 50
    · exact Ev.congr (fun k => if_pos hl) (Ev.bind awake02 (Ev.now _))
    · exact Ev.congr (fun k => if_neg hl) (many_l0 l t (by omega) hs ht l.length 0 (by omega))
  exact h.rounds
end Go.Proofs.Ytdidcjmefinhjaa.Pure
