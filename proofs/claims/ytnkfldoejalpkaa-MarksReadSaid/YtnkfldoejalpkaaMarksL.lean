/- Marks: the least of those that are not idle. -/
import Derived.Test.YtnkfldoejalpkaaMarks
import Derived.Outline
namespace Go.Proofs.Ytnkfldoejalpkaa.Marks
open Go.RowKit Aid PMarks
theorem least_snoc (l : List Src) (m : Int) (i : Bool) : least (l ++ [(m, i)]) = if i then least l else match least l with
    | none => some m
    | some x => some (if m < x then m else x) := by
  induction l with
  | nil => cases i <;> rfl
  | cons a l ih =>
    obtain ⟨am, ai⟩ := a
    simp only [List.cons_append, least, ih]
    cases ai <;> cases i <;> cases least l <;> simp
    all_goals (try (split <;> split <;> (try split) <;> omega))
    all_goals omega
theorem least_any (b : Nat) (s : St) (w : World) (h : Held w b s) : Calls Try.prog 31 #[.pointer (some ⟨b, 0, none⟩)] w fun e w' => e = .returned (.tuple #[.int .i64 ((least s.l).getD 0), .bool (least s.l).isSome]) ∧ Below w.heap.size w w' := by
  have hn := h.n
  have hle : (s.l.length : Int) ≤ 16 := by have := h.le; omega
  have hle0 : 0 ≤ (s.l.length : Int) := by omega
  have hlt := h.lt
  have HH := Lib.hid h
  clear h
  go_enter Try.func31, Try.ntmps31
  go_wp2_with fail
  go_quiet (fail)
  go_wp2_with fail
  have hb0 : Below w.heap.size w (w.drewN nq) := below_drewN (Below.refl _ _) nq
  generalize w.drewN nq = w1 at hb0 ⊢
  obtain ⟨l, hl⟩ : ∃ l, l = s.l := ⟨_, rfl⟩
  rw [← hl] at hn hle hle0 ⊢
  have HL := Lib.hid hl
  clear hl hn
  go_loopw [2, 3, 15] (fun v2 v3 v15 wr => ∃ i : Nat, i ≤ l.length ∧ v2 = .int .i64 ((least (l.take i)).getD 0) ∧ v3 = .bool (least (l.take i)).isSome ∧ v15 = .int .i64 i ∧ Below w.heap.size w wr) (fun _ _ v15 _ => l.length - (intOf v15).toNat)
  case atStart => exact ⟨0, by omega, rfl, rfl, rfl, hb0⟩
  case round =>
    obtain ⟨i, hi, rfl, rfl, rfl, hb⟩ := hrel
    by_cases hlt2 : i < l.length
    · have t1 : ((i : Int) < (l.length : Int)) = True := eq_true (by omega)
      have hH := HH.out.below hb hlt
      have hm := hH.mark i (by omega)
      have hd := hH.idle i (by omega)
      clear hH
      have hs : src s.l i = l.getD i (0, false) := by rw [← HL.out]; exact src_at l i hlt2
      have hg : l.getD i (0, false) = l[i] := by rw [List.getD_eq_getElem?_getD, List.getElem?_eq_getElem hlt2]; rfl
      have hsn := least_snoc (l.take i) l[i].1 l[i].2
      have ht : l.take (i + 1) = l.take i ++ [(l[i].1, l[i].2)] := List.take_succ_eq_append_getElem hlt2
      rw [← ht] at hsn
      rw [hs, hg] at hm hd
      clear hs hg ht
      generalize hm1 : l[i].1 = m at hm hsn
      clear hm1
      generalize hd1 : l[i].2 = d at hd hsn
      clear hd1
      have hb2 := hb.alloc hb.size (.cells #[.int .i64 m, .bool d] 42)
      cases d with
      | true =>
        have HS := Lib.hid hsn
        clear hsn
        go_wp2_with fail
        go_roundw
        case rel => exact ⟨i + 1, by omega, by rw [HS.out]; rfl, by rw [HS.out]; rfl, by go_num, hb2⟩
        case measure => simp [intOf]; omega
      | false =>
        cases ho : least (l.take i) with
        | none =>
          rw [ho] at hsn
          have HS := Lib.hid hsn
          clear hsn ho
          go_wp2_with fail
          go_roundw
          case rel => exact ⟨i + 1, by omega, by rw [HS.out]; rfl, by rw [HS.out]; rfl, by go_num, hb2⟩
          case measure => simp [intOf]; omega
        | some x =>
          rw [ho] at hsn
          have HS := Lib.hid hsn
          have HO := Lib.hid ho
          clear hsn ho
          by_cases hmx : m < x
          · go_wp2_with fail
            go_roundw
            case rel => exact ⟨i + 1, by omega, by rw [HS.out]; simp [hmx], by rw [HS.out]; simp, by go_num, hb2⟩
            case measure => simp [intOf]; omega
          · go_wp2_with fail
            go_roundw
            case rel => exact ⟨i + 1, by omega, by rw [HS.out]; simp [hmx], by rw [HS.out]; simp, by go_num, hb2⟩
            case measure => simp [intOf]; omega
    · have t1 : ((i : Int) < (l.length : Int)) = False := eq_false (by omega)
      obtain rfl : i = l.length := by omega
      rw [List.take_length]
      go_wp2_with fail
      go_ret2
      exact ⟨by rw [← HL.out]; rfl, hb⟩
end Go.Proofs.Ytnkfldoejalpkaa.Marks
